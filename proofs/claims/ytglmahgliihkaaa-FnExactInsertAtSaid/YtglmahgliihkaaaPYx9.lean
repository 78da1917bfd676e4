-- Written by the session's program hprint.py, over the kit's print program. Lean checks it.
import Derived.Test.YtglmahgliihkaaaPYx0
import Derived.Test.YtglmahgliihkaaaPYx4
import Derived.Test.YtglmahgliihkaaaPYx8
namespace Go.Proofs.Ytglmahgliihkaaa.PY
open Go.RowKit Go.Proofs.YtglmahgliihkaaaW.PrintWords Go.Proofs.YtglmahgliihkaaaW.PrintLast Go.Proofs.YtglmahgliihkaaaW.PrintMore
attribute [local go_sem] max2_int min2_int max_two min_two max_three min_three max_four min_four   -- for this text's walks alone
set_option linter.unusedVariables false
set_option linter.unusedSimpArgs false
set_option maxHeartbeats 8000000
set_option maxRecDepth 100000

/-! ### laws_eqNode: function 11 -/
def laws_eqNode.F (G_ : List (S34) → List (S34) → Option (Bool)) (k : Nat) (a0_0 : Int) (a0_1 : ByteArray) (a0_2 : ByteArray) (a0_3 : ByteArray) (l0_4 : List (S69)) (l0_5 : List (S71)) (l0_6 : List (S34)) (a0_7 : ByteArray) (a1_0 : Int) (a1_1 : ByteArray) (a1_2 : ByteArray) (a1_3 : ByteArray) (l1_4 : List (S69)) (l1_5 : List (S71)) (l1_6 : List (S34)) (a1_7 : ByteArray) : Option (Bool) := if a0_0 = a1_0 then (if a0_1.toList = a1_1.toList then (if a0_2.toList = a1_2.toList then (if a0_3.toList = a1_3.toList then ((laws_eqDeclS.f k l0_4 l1_4).bind fun t438 => (if t438 = true then ((laws_eqAttrS.f k l0_5 l1_5).bind fun t439 => (if t439 = true then ((G_ l0_6 l1_6).bind fun t440 => (if t440 = true then (if a0_7.toList = a1_7.toList then (some true) else (some false)) else (some false))) else (some false))) else (some false))) else (some false)) else (some false)) else (some false)) else (some false)
theorem laws_eqNode.monoF {G_ G2_ : List (S34) → List (S34) → Option (Bool)} (hG_ : ∀ y0_ y1_, LeO (G_ y0_ y1_) (G2_ y0_ y1_)) : ∀ a0 a1 a2 a3 a4 a5 a6 a7 a8 a9 a10 a11 a12 a13 a14 a15 k, LeO (laws_eqNode.F G_ k a0 a1 a2 a3 a4 a5 a6 a7 a8 a9 a10 a11 a12 a13 a14 a15) (laws_eqNode.F G2_ (k + 1) a0 a1 a2 a3 a4 a5 a6 a7 a8 a9 a10 a11 a12 a13 a14 a15) := by
 intro a0 a1 a2 a3 a4 a5 a6 a7 a8 a9 a10 a11 a12 a13 a14 a15 k
 unfold laws_eqNode.F
 repeat' first
   | (with_reducible exact laws_eqAttrS.mono _ _ _)
   | (with_reducible exact laws_eqDeclS.mono _ _ _)
   | (with_reducible exact hG_ _ _)
   | (with_reducible exact LeO.refl _)
   | (with_reducible exact LeO.none _)
   | (with_reducible refine LeO.ite ?_ ?_)
   | (with_reducible refine LeO.bind ?_ (fun _ => ?_))
   | exact laws_eqAttrS.mono _ _ _
   | exact laws_eqDeclS.mono _ _ _
   | exact hG_ _ _
   | exact LeO.none _
   | refine LeO.ite ?_ ?_
   | refine LeO.bind ?_ (fun _ => ?_)
theorem laws_eqNode.callsF (G_ : List (S34) → List (S34) → Option (Bool)) (hG_ : ∀ (A0 : Option Addr) (c0 : Nat) (l0 : List (S34)) (A1 : Option Addr) (c1 : Nat) (l1 : List (S34)) (r_ : Bool) (w : World) (hr0 : Kd.C k34 w A0 l0.length l0) (hc0 : l0.length ≤ c0) (hr1 : Kd.C k34 w A1 l1.length l1) (hc1 : l1.length ≤ c1) (h : G_ l0 l1 = some true), Calls Try.prog 13 #[.slice A0 l0.length c0, .slice A1 l1.length c1] w fun e w' => e = .returned (.bool true) ∧ Below w.heap.size w w') (k : Nat) (a0_0 : Int) (a0_1 : ByteArray) (a0_2 : ByteArray) (a0_3 : ByteArray) (A0_4 : Option Addr) (c0_4 : Nat) (l0_4 : List (S69)) (A0_5 : Option Addr) (c0_5 : Nat) (l0_5 : List (S71)) (A0_6 : Option Addr) (c0_6 : Nat) (l0_6 : List (S34)) (a0_7 : ByteArray) (a1_0 : Int) (a1_1 : ByteArray) (a1_2 : ByteArray) (a1_3 : ByteArray) (A1_4 : Option Addr) (c1_4 : Nat) (l1_4 : List (S69)) (A1_5 : Option Addr) (c1_5 : Nat) (l1_5 : List (S71)) (A1_6 : Option Addr) (c1_6 : Nat) (l1_6 : List (S34)) (a1_7 : ByteArray) (r_ : Bool) (w : World) (hr0_4 : Kd.C k69 w A0_4 l0_4.length l0_4) (hc0_4 : l0_4.length ≤ c0_4) (hr0_5 : Kd.C k71 w A0_5 l0_5.length l0_5) (hc0_5 : l0_5.length ≤ c0_5) (hr0_6 : Kd.C k34 w A0_6 l0_6.length l0_6) (hc0_6 : l0_6.length ≤ c0_6) (hr1_4 : Kd.C k69 w A1_4 l1_4.length l1_4) (hc1_4 : l1_4.length ≤ c1_4) (hr1_5 : Kd.C k71 w A1_5 l1_5.length l1_5) (hc1_5 : l1_5.length ≤ c1_5) (hr1_6 : Kd.C k34 w A1_6 l1_6.length l1_6) (hc1_6 : l1_6.length ≤ c1_6) (h : laws_eqNode.F G_ k a0_0 a0_1 a0_2 a0_3 l0_4 l0_5 l0_6 a0_7 a1_0 a1_1 a1_2 a1_3 l1_4 l1_5 l1_6 a1_7 = some true) :
  Calls Try.prog 11 #[.agg #[.int .i64 a0_0, .string a0_1, .string a0_2, .string a0_3, .slice A0_4 l0_4.length c0_4, .slice A0_5 l0_5.length c0_5, .slice A0_6 l0_6.length c0_6, .string a0_7], .agg #[.int .i64 a1_0, .string a1_1, .string a1_2, .string a1_3, .slice A1_4 l1_4.length c1_4, .slice A1_5 l1_5.length c1_5, .slice A1_6 l1_6.length c1_6, .string a1_7]] w fun e w' => e = .returned (.bool true) ∧ Below w.heap.size w w' := by
 have hu34 := Try.underlying34
 have HR0_4 := Aside0.mk hr0_4
 have HC0_4 := Aside0.mk hc0_4
 clear hr0_4 hc0_4
 have HR0_5 := Aside0.mk hr0_5
 have HC0_5 := Aside0.mk hc0_5
 clear hr0_5 hc0_5
 have HR0_6 := Aside0.mk hr0_6
 have HC0_6 := Aside0.mk hc0_6
 clear hr0_6 hc0_6
 have HR1_4 := Aside0.mk hr1_4
 have HC1_4 := Aside0.mk hc1_4
 clear hr1_4 hc1_4
 have HR1_5 := Aside0.mk hr1_5
 have HC1_5 := Aside0.mk hc1_5
 clear hr1_5 hc1_5
 have HR1_6 := Aside0.mk hr1_6
 have HC1_6 := Aside0.mk hc1_6
 clear hr1_6 hc1_6
 have HB := Aside0.mk (Below.refl w.heap.size w)
 have H : (if a0_0 = a1_0 then (if a0_1.toList = a1_1.toList then (if a0_2.toList = a1_2.toList then (if a0_3.toList = a1_3.toList then ((laws_eqDeclS.f k l0_4 l1_4).bind fun t438 => (if t438 = true then ((laws_eqAttrS.f k l0_5 l1_5).bind fun t439 => (if t439 = true then ((G_ l0_6 l1_6).bind fun t440 => (if t440 = true then (if a0_7.toList = a1_7.toList then (some true) else (some false)) else (some false))) else (some false))) else (some false))) else (some false)) else (some false)) else (some false)) else (some false)) = some true := h
 clear h
 go_enter Try.func11, Try.ntmps11
 go_wp2_with (first | ((with_reducible refine gate_dst (N := 2) rfl ?_); refine box_event ?hg (N := 2) ?hd (cs := #[.int .i64 a0_0, .string a0_1, .string a0_2, .string a0_3, .slice A0_4 l0_4.length c0_4, .slice A0_5 l0_5.length c0_5, .slice A0_6 l0_6.length c0_6, .string a0_7]) (t := 34) ?hr ?_; (case hd => rfl); (case hg => rfl); (case hr => first | (go_simp; done) | (go_simp; rfl)); intro gb436 hg w3 hbox hb; have BK436 := Aside0.mk (hbox); have GW436 := Aside0.mk ((by rw [hg]; exact (below_size hB) : w.heap.size ≤ gb436)); have GE436 := Aside0.mk ((by rw [hg]; exact (below_size hB) : w.heap.size ≤ gb436)); replace HB := Aside0.mk (below_step hB hb); clear hb hbox hg) | ((with_reducible refine gate_dst (N := 3) rfl ?_); refine box_event ?hg (N := 3) ?hd (cs := #[.int .i64 a1_0, .string a1_1, .string a1_2, .string a1_3, .slice A1_4 l1_4.length c1_4, .slice A1_5 l1_5.length c1_5, .slice A1_6 l1_6.length c1_6, .string a1_7]) (t := 34) ?hr ?_; (case hd => rfl); (case hg => rfl); (case hr => first | (go_simp; done) | (go_simp; rfl)); intro gb437 hg w4 hbox hb; have BK437 := Aside0.mk (hbox); have GW437 := Aside0.mk ((by rw [hg]; exact (below_size hB) : w.heap.size ≤ gb437)); have GE437 := Aside0.mk ((by rw [hg]; exact (below_size hB) : w.heap.size ≤ gb437)); replace HB := Aside0.mk (below_step hB hb); have NB436_437 := Aside0.mk ((by rw [hg]; exact Nat.ne_of_lt (blk_lt (g := gb436) (by (with_reducible repeat (first | refine bN ?_ _|refine bD ?_|refine bA ?_ _)); exact BK436.out)) : gb436 ≠ gb437)); have NB437_436 := Aside0.mk ((by rw [hg]; exact Nat.ne_of_gt (blk_lt (g := gb436) (by (with_reducible repeat (first | refine bN ?_ _|refine bD ?_|refine bA ?_ _)); exact BK436.out)) : gb437 ≠ gb436)); replace BK436 := Aside0.mk (blk_below (g := gb436) (by (with_reducible repeat (first | refine bN ?_ _|refine bD ?_|refine bA ?_ _)); exact BK436.out) hb); clear hb hbox hg; have hnb5 := NB436_437.out; have hnc5 := NB437_436.out; obtain ⟨hcz6_0, hcz6_1, hcz6_2, hcz6_3, hcz6_4, hcz6_5, hcz6_6, hcz6_7⟩ := bc8 BK436.out; obtain ⟨hcz7_0, hcz7_1, hcz7_2, hcz7_3, hcz7_4, hcz7_5, hcz7_6, hcz7_7⟩ := bc8 BK437.out; refine halt_ ?_; intro q_ hq_))
 obtain ⟨rfl⟩ := hq_
 by_cases c8 : a0_0 = a1_0
 ·rw [if_pos c8] at H
  have c8b0 : (a0_0 == a1_0) = true := beq_iff_eq.mpr c8
  have c8b1 : (a0_0 != a1_0) = false := bne_eq_false_iff_eq.mpr c8
  clear c8
  by_cases c9 : a0_1.toList = a1_1.toList
  ·rw [if_pos c9] at H
   have c9b0 : (a0_1.toList == a1_1.toList) = true := beq_iff_eq.mpr c9
   have c9b1 : (a0_1.toList != a1_1.toList) = false := bne_eq_false_iff_eq.mpr c9
   clear c9
   by_cases c10 : a0_2.toList = a1_2.toList
   ·rw [if_pos c10] at H
    have c10b0 : (a0_2.toList == a1_2.toList) = true := beq_iff_eq.mpr c10
    have c10b1 : (a0_2.toList != a1_2.toList) = false := bne_eq_false_iff_eq.mpr c10
    clear c10
    by_cases c11 : a0_3.toList = a1_3.toList
    ·rw [if_pos c11] at H
     have c11b0 : (a0_3.toList == a1_3.toList) = true := beq_iff_eq.mpr c11
     have c11b1 : (a0_3.toList != a1_3.toList) = false := bne_eq_false_iff_eq.mpr c11
     clear c11
     replace H := Option.bind_eq_some_iff.mp H
     obtain ⟨t438, A120, H⟩ := H
     try dsimp only at H
     have A12 := Aside0.mk A120
     clear A120
     by_cases c13 : t438 = true
     ·subst c13
      rw [if_pos rfl] at H
      replace H := Option.bind_eq_some_iff.mp H
      obtain ⟨t439, A140, H⟩ := H
      try dsimp only at H
      have A14 := Aside0.mk A140
      clear A140
      by_cases c15 : t439 = true
      ·subst c15
       rw [if_pos rfl] at H
       replace H := Option.bind_eq_some_iff.mp H
       obtain ⟨t440, A160, H⟩ := H
       try dsimp only at H
       have A16 := Aside0.mk A160
       clear A160
       by_cases c17 : t440 = true
       ·subst c17
        rw [if_pos rfl] at H
        by_cases c18 : a0_7.toList = a1_7.toList
        ·rw [if_pos c18] at H
         have c18b0 : (a0_7.toList == a1_7.toList) = true := beq_iff_eq.mpr c18
         have c18b1 : (a0_7.toList != a1_7.toList) = false := bne_eq_false_iff_eq.mpr c18
         clear c18
         first | obtain rfl := Option.some.inj H | clear H
         have hnb19 := NB436_437.out
         have hnc19 := NB437_436.out
         obtain ⟨hcz20_0, hcz20_1, hcz20_2, hcz20_3, hcz20_4, hcz20_5, hcz20_6, hcz20_7⟩ := bc8 BK436.out
         obtain ⟨hcz21_0, hcz21_1, hcz21_2, hcz21_3, hcz21_4, hcz21_5, hcz21_6, hcz21_7⟩ := bc8 BK437.out
         go_wp2_with (first | ((with_reducible refine gate_callee (f := 32) rfl ?_); refine goesL_ (some 29) rfl rfl Try.func32 (by kernel_rfl) rfl #[.slice A0_4 l0_4.length c0_4, .slice A1_4 l1_4.length c1_4] rfl mA ?_; (with_reducible refine (laws_eqDeclS.calls k _ _ l0_4 _ _ l1_4 true _ ?side1 ?side2 ?side3 ?side4 A12.out).mono ?_); (case side1 => repeat (first | exact (Kd.C_below HR0_4.out HB.out) | (with_reducible refine Kd.C_alloc ?_ _) | (with_reducible refine Kd.C_drewN ?_ _) | (with_reducible refine Kd.C_drew ?_))); (case side2 => exact HC0_4.out); (case side3 => repeat (first | exact (Kd.C_below HR1_4.out HB.out) | (with_reducible refine Kd.C_alloc ?_ _) | (with_reducible refine Kd.C_drewN ?_ _) | (with_reducible refine Kd.C_drew ?_))); (case side4 => exact HC1_4.out); rintro e w22 ⟨rfl, hb⟩; refine ⟨_, rfl, ?_⟩; replace BK436 := Aside0.mk (blk_below (g := gb436) (by (with_reducible repeat (first | refine bN ?_ _|refine bD ?_|refine bA ?_ _)); exact BK436.out) hb); replace BK437 := Aside0.mk (blk_below (g := gb437) (by (with_reducible repeat (first | refine bN ?_ _|refine bD ?_|refine bA ?_ _)); exact BK437.out) hb); replace HB := Aside0.mk (below_step hB hb); (try clear hb); (try clear hb2); (try clear hk); (try clear hi); obtain ⟨hcz23_0, hcz23_1, hcz23_2, hcz23_3, hcz23_4, hcz23_5, hcz23_6, hcz23_7⟩ := bc8 BK436.out; obtain ⟨hcz24_0, hcz24_1, hcz24_2, hcz24_3, hcz24_4, hcz24_5, hcz24_6, hcz24_7⟩ := bc8 BK437.out) | ((with_reducible refine gate_callee (f := 33) rfl ?_); refine goesL_ (some 35) rfl rfl Try.func33 (by kernel_rfl) rfl #[.slice A0_5 l0_5.length c0_5, .slice A1_5 l1_5.length c1_5] rfl mA ?_; (with_reducible refine (laws_eqAttrS.calls k _ _ l0_5 _ _ l1_5 true _ ?side1 ?side2 ?side3 ?side4 A14.out).mono ?_); (case side1 => repeat (first | exact (Kd.C_below HR0_5.out HB.out) | (with_reducible refine Kd.C_alloc ?_ _) | (with_reducible refine Kd.C_drewN ?_ _) | (with_reducible refine Kd.C_drew ?_))); (case side2 => exact HC0_5.out); (case side3 => repeat (first | exact (Kd.C_below HR1_5.out HB.out) | (with_reducible refine Kd.C_alloc ?_ _) | (with_reducible refine Kd.C_drewN ?_ _) | (with_reducible refine Kd.C_drew ?_))); (case side4 => exact HC1_5.out); rintro e w25 ⟨rfl, hb⟩; refine ⟨_, rfl, ?_⟩; replace BK436 := Aside0.mk (blk_below (g := gb436) (by (with_reducible repeat (first | refine bN ?_ _|refine bD ?_|refine bA ?_ _)); exact BK436.out) hb); replace BK437 := Aside0.mk (blk_below (g := gb437) (by (with_reducible repeat (first | refine bN ?_ _|refine bD ?_|refine bA ?_ _)); exact BK437.out) hb); replace HB := Aside0.mk (below_step hB hb); (try clear hb); (try clear hb2); (try clear hk); (try clear hi); obtain ⟨hcz26_0, hcz26_1, hcz26_2, hcz26_3, hcz26_4, hcz26_5, hcz26_6, hcz26_7⟩ := bc8 BK436.out; obtain ⟨hcz27_0, hcz27_1, hcz27_2, hcz27_3, hcz27_4, hcz27_5, hcz27_6, hcz27_7⟩ := bc8 BK437.out) | ((with_reducible refine gate_callee (f := 13) rfl ?_); refine goesL_ (some 41) rfl rfl Try.func13 (by kernel_rfl) rfl #[.slice A0_6 l0_6.length c0_6, .slice A1_6 l1_6.length c1_6] rfl mA ?_; (with_reducible refine (hG_ _ _ l0_6 _ _ l1_6 true _ ?side1 ?side2 ?side3 ?side4 A16.out).mono ?_); (case side1 => repeat (first | exact (Kd.C_below HR0_6.out HB.out) | (with_reducible refine Kd.C_alloc ?_ _) | (with_reducible refine Kd.C_drewN ?_ _) | (with_reducible refine Kd.C_drew ?_))); (case side2 => exact HC0_6.out); (case side3 => repeat (first | exact (Kd.C_below HR1_6.out HB.out) | (with_reducible refine Kd.C_alloc ?_ _) | (with_reducible refine Kd.C_drewN ?_ _) | (with_reducible refine Kd.C_drew ?_))); (case side4 => exact HC1_6.out); rintro e w28 ⟨rfl, hb⟩; refine ⟨_, rfl, ?_⟩; replace BK436 := Aside0.mk (blk_below (g := gb436) (by (with_reducible repeat (first | refine bN ?_ _|refine bD ?_|refine bA ?_ _)); exact BK436.out) hb); replace BK437 := Aside0.mk (blk_below (g := gb437) (by (with_reducible repeat (first | refine bN ?_ _|refine bD ?_|refine bA ?_ _)); exact BK437.out) hb); replace HB := Aside0.mk (below_step hB hb); (try clear hb); (try clear hb2); (try clear hk); (try clear hi); obtain ⟨hcz29_0, hcz29_1, hcz29_2, hcz29_3, hcz29_4, hcz29_5, hcz29_6, hcz29_7⟩ := bc8 BK436.out; obtain ⟨hcz30_0, hcz30_1, hcz30_2, hcz30_3, hcz30_4, hcz30_5, hcz30_6, hcz30_7⟩ := bc8 BK437.out))
         go_ret
         exact ⟨rE, hB⟩
        ·rw [if_neg c18] at H
         exact absurd H (by simp)
       ·rw [if_neg c17] at H
        exact absurd H (by simp)
      ·rw [if_neg c15] at H
       exact absurd H (by simp)
     ·rw [if_neg c13] at H
      exact absurd H (by simp)
    ·rw [if_neg c11] at H
     exact absurd H (by simp)
   ·rw [if_neg c10] at H
    exact absurd H (by simp)
  ·rw [if_neg c9] at H
   exact absurd H (by simp)
 ·rw [if_neg c8] at H
  exact absurd H (by simp)
/-! ### laws_eqNodeS: function 13 -/
mutual
def laws_eqNodeS.l0 : Nat → List (S34) → List (S34) → Int → Option (Bool)
 | 0, _, _, _ => none
 | k + 1, x0, x1, x5 => if x5 < (x0.length : Int) then (if 0 ≤ x5 then (if x5 < (x1.length : Int) then ((laws_eqNode.F (fun y0_ y1_ => laws_eqNodeS.f k y0_ y1_) k ((rd_T34 x0 x5).f0) ((rd_T34 x0 x5).f1) ((rd_T34 x0 x5).f2) ((rd_T34 x0 x5).f3) ((rd_T34 x0 x5).f4) ((rd_T34 x0 x5).f5) ((rd_T34 x0 x5).f6) ((rd_T34 x0 x5).f7) ((rd_T34 x1 x5).f0) ((rd_T34 x1 x5).f1) ((rd_T34 x1 x5).f2) ((rd_T34 x1 x5).f3) ((rd_T34 x1 x5).f4) ((rd_T34 x1 x5).f5) ((rd_T34 x1 x5).f6) ((rd_T34 x1 x5).f7)).bind fun t445 => (if t445 = true then (laws_eqNodeS.l0 k x0 x1 (wrap64 (x5 + 1))) else (some false))) else (none)) else (none)) else (some true)
def laws_eqNodeS.f : Nat → List (S34) → List (S34) → Option (Bool)
 | 0, _, _ => none
 | k + 1, l0, l1 => if (l0.length : Int) = (l1.length : Int) then (laws_eqNodeS.l0 k l0 l1 0) else (some false)
end
def laws_eqNodeS.T6 : Bool × List (List Nat × List Nat) := (true, [([], []), ([], []), ([0, 1], [0, 1]), ([2], [2]), ([], []), ([], []), ([4, 5], [4, 5]), ([6], [6]), ([3, 7], [3, 7]), ([8], [8])])
def laws_eqNodeS.B6 : List Nat := [0, 0, 3, 7, 0, 0, 48, 112, 255, 511]
theorem laws_eqNodeS.tab6 : rtab .any (opsOf Try.f13 6) = laws_eqNodeS.T6 := by kernel_rfl
theorem laws_eqNodeS.bits6 : waitsOk laws_eqNodeS.T6.2 laws_eqNodeS.B6 = true := by kernel_rfl
theorem laws_eqNodeS.calls (k : Nat) : ∀ (A0 : Option Addr) (c0 : Nat) (l0 : List (S34)) (A1 : Option Addr) (c1 : Nat) (l1 : List (S34)) (r_ : Bool) (w : World) (hr0 : Kd.C k34 w A0 l0.length l0) (hc0 : l0.length ≤ c0) (hr1 : Kd.C k34 w A1 l1.length l1) (hc1 : l1.length ≤ c1) (h : laws_eqNodeS.f k l0 l1 = some true),
  Calls Try.prog 13 #[.slice A0 l0.length c0, .slice A1 l1.length c1] w fun e w' => e = .returned (.bool true) ∧ Below w.heap.size w w' := by
 induction k using Nat.strongRecOn with
 | _ k ih =>
 intro A0 c0 l0 A1 c1 l1 r_ w hr0 hc0 hr1 hc1 h
 cases k with
 | zero => exact absurd h (by simp [laws_eqNodeS.f])
 | succ k =>
 simp only [laws_eqNodeS.f] at h
 have hu34 := Try.underlying34
 have HR0 := Aside0.mk hr0
 have HC0 := Aside0.mk hc0
 clear hr0 hc0
 have HR1 := Aside0.mk hr1
 have HC1 := Aside0.mk hc1
 clear hr1 hc1
 have HB := Aside0.mk (Below.refl w.heap.size w)
 have H : (if (l0.length : Int) = (l1.length : Int) then (laws_eqNodeS.l0 k l0 l1 0) else (some false)) = some true := h
 clear h
 by_cases c3 : (l0.length : Int) = (l1.length : Int)
 ·rw [if_pos c3] at H
  have c3b0 : ((l0.length : Int) == (l1.length : Int)) = true := beq_iff_eq.mpr c3
  have c3b1 : ((l0.length : Int) != (l1.length : Int)) = false := bne_eq_false_iff_eq.mpr c3
  have c3b2 : (l0.length == l1.length) = true := by first | simpa using c3 | (simp at c3 ⊢; omega)
  clear c3
  have H' := Aside0.mk H
  clear H
  go_enter Try.func13, Try.ntmps13
  go_wp2
  go_loopg [5] k (fun kq v5 w' => ∃ (x5_1 : Int), v5 = .int .i64 x5_1 ∧ Aside0 (laws_eqNodeS.l0 kq l0 l1 x5_1 = some true) ∧ Aside0 (kq ≤ k) ∧ Aside0 (Below w.heap.size w w'))
  case atStart => exact ⟨(0), rG, H', ⟨Nat.le_refl _⟩, ⟨hB⟩⟩
  case round =>
   clear H'
   try clear c3; try clear c3b2; try clear c3b1; try clear c3b0
   obtain ⟨x5_1, rfl, HA, HK1, HB⟩ := hrel
   cases gk with
   | zero => exact absurd HA.out (by simp [laws_eqNodeS.l0])
   | succ k1 =>
    have H := HA.out
    clear HA
    simp only [laws_eqNodeS.l0] at H
    by_cases c4 : x5_1 < (l0.length : Int)
    ·rw [if_pos c4] at H
     have c4b0 : decide (x5_1 < (l0.length : Int)) = true := decide_eq_true c4
     clear c4
     by_cases c5 : 0 ≤ x5_1
     ·rw [if_pos c5] at H
      have c5b0 : decide (0 ≤ x5_1) = true := decide_eq_true c5
      clear c5
      by_cases c6 : x5_1 < (l1.length : Int)
      ·rw [if_pos c6] at H
       have c6b0 : decide (x5_1 < (l1.length : Int)) = true := decide_eq_true c6
       clear c6
       replace H := Option.bind_eq_some_iff.mp H
       obtain ⟨t445, A70, H⟩ := H
       try dsimp only at H
       have A7 := Aside0.mk A70
       clear A70
       by_cases c8 : t445 = true
       ·subst c8
        rw [if_pos rfl] at H
        have H' := Aside0.mk H
        clear H
        try go_wp2
        replace HB := Aside0.mk (below_drew1 HB.out)
        have p443 : 0 ≤ (x5_1 : Int) := odt
        have q443 : x5_1 < (l0.length : Int) := odt
        obtain ⟨ad443, A443_4, c443_4, A443_5, c443_5, A443_6, c443_6, e443, hx443_0, hx443_1, hx443_2, hx443_3, hx443_4, hx443_5, hx443_6, hx443_7, hl443_4, hi443_4, hl443_5, hi443_5, hl443_6, hi443_6⟩ := at_T34 HR0.out x5_1 p443 q443
        have hw443_7 := hx443_7
        have hw443_6 := hx443_6
        have hw443_5 := hx443_5
        have hw443_4 := hx443_4
        have hw443_3 := hx443_3
        have hw443_2 := hx443_2
        have hw443_1 := hx443_1
        have hw443_0 := hx443_0
        cases e443
        replace hx443_0 := pw_cell_below HB.out hx443_0
        replace hx443_1 := pw_cell_below HB.out hx443_1
        replace hx443_2 := pw_cell_below HB.out hx443_2
        replace hx443_3 := pw_cell_below HB.out hx443_3
        replace hx443_4 := pw_cell_below HB.out hx443_4
        replace hx443_5 := pw_cell_below HB.out hx443_5
        replace hx443_6 := pw_cell_below HB.out hx443_6
        replace hx443_7 := pw_cell_below HB.out hx443_7
        have HR443_4 := Aside0.mk hi443_4
        have HC443_4 := Aside0.mk hl443_4
        clear hi443_4 hl443_4
        have HR443_5 := Aside0.mk hi443_5
        have HC443_5 := Aside0.mk hl443_5
        clear hi443_5 hl443_5
        have HR443_6 := Aside0.mk hi443_6
        have HC443_6 := Aside0.mk hl443_6
        clear hi443_6 hl443_6
        replace p443 := eq_true p443
        replace q443 := eq_true q443
        have p444 : 0 ≤ (x5_1 : Int) := odt
        have q444 : x5_1 < (l1.length : Int) := odt
        obtain ⟨ad444, A444_4, c444_4, A444_5, c444_5, A444_6, c444_6, e444, hx444_0, hx444_1, hx444_2, hx444_3, hx444_4, hx444_5, hx444_6, hx444_7, hl444_4, hi444_4, hl444_5, hi444_5, hl444_6, hi444_6⟩ := at_T34 HR1.out x5_1 p444 q444
        have hw444_7 := hx444_7
        have hw444_6 := hx444_6
        have hw444_5 := hx444_5
        have hw444_4 := hx444_4
        have hw444_3 := hx444_3
        have hw444_2 := hx444_2
        have hw444_1 := hx444_1
        have hw444_0 := hx444_0
        cases e444
        replace hx444_0 := pw_cell_below HB.out hx444_0
        replace hx444_1 := pw_cell_below HB.out hx444_1
        replace hx444_2 := pw_cell_below HB.out hx444_2
        replace hx444_3 := pw_cell_below HB.out hx444_3
        replace hx444_4 := pw_cell_below HB.out hx444_4
        replace hx444_5 := pw_cell_below HB.out hx444_5
        replace hx444_6 := pw_cell_below HB.out hx444_6
        replace hx444_7 := pw_cell_below HB.out hx444_7
        have HR444_4 := Aside0.mk hi444_4
        have HC444_4 := Aside0.mk hl444_4
        clear hi444_4 hl444_4
        have HR444_5 := Aside0.mk hi444_5
        have HC444_5 := Aside0.mk hl444_5
        clear hi444_5 hl444_5
        have HR444_6 := Aside0.mk hi444_6
        have HC444_6 := Aside0.mk hl444_6
        clear hi444_6 hl444_6
        replace p444 := eq_true p444
        replace q444 := eq_true q444
        refine start_ (n := 10) (S := fun w' => w'.cell? (ad443.add ((x5_1).toNat * 8)) = some (.int .i64 ((rd_T34 l0 x5_1).f0)) ∧ w'.cell? ⟨(ad443.add ((x5_1).toNat * 8)).block, (ad443.add ((x5_1).toNat * 8)).off + 1, none⟩ = some (.string ((rd_T34 l0 x5_1).f1)) ∧ w'.cell? ⟨(ad443.add ((x5_1).toNat * 8)).block, (ad443.add ((x5_1).toNat * 8)).off + 2, none⟩ = some (.string ((rd_T34 l0 x5_1).f2)) ∧ w'.cell? ⟨(ad443.add ((x5_1).toNat * 8)).block, (ad443.add ((x5_1).toNat * 8)).off + 3, none⟩ = some (.string ((rd_T34 l0 x5_1).f3)) ∧ w'.cell? ⟨(ad443.add ((x5_1).toNat * 8)).block, (ad443.add ((x5_1).toNat * 8)).off + 4, none⟩ = some (.slice A443_4 ((rd_T34 l0 x5_1).f4).length c443_4) ∧ w'.cell? ⟨(ad443.add ((x5_1).toNat * 8)).block, (ad443.add ((x5_1).toNat * 8)).off + 5, none⟩ = some (.slice A443_5 ((rd_T34 l0 x5_1).f5).length c443_5) ∧ w'.cell? ⟨(ad443.add ((x5_1).toNat * 8)).block, (ad443.add ((x5_1).toNat * 8)).off + 6, none⟩ = some (.slice A443_6 ((rd_T34 l0 x5_1).f6).length c443_6) ∧ w'.cell? ⟨(ad443.add ((x5_1).toNat * 8)).block, (ad443.add ((x5_1).toNat * 8)).off + 7, none⟩ = some (.string ((rd_T34 l0 x5_1).f7)) ∧ w'.cell? (ad444.add ((x5_1).toNat * 8)) = some (.int .i64 ((rd_T34 l1 x5_1).f0)) ∧ w'.cell? ⟨(ad444.add ((x5_1).toNat * 8)).block, (ad444.add ((x5_1).toNat * 8)).off + 1, none⟩ = some (.string ((rd_T34 l1 x5_1).f1)) ∧ w'.cell? ⟨(ad444.add ((x5_1).toNat * 8)).block, (ad444.add ((x5_1).toNat * 8)).off + 2, none⟩ = some (.string ((rd_T34 l1 x5_1).f2)) ∧ w'.cell? ⟨(ad444.add ((x5_1).toNat * 8)).block, (ad444.add ((x5_1).toNat * 8)).off + 3, none⟩ = some (.string ((rd_T34 l1 x5_1).f3)) ∧ w'.cell? ⟨(ad444.add ((x5_1).toNat * 8)).block, (ad444.add ((x5_1).toNat * 8)).off + 4, none⟩ = some (.slice A444_4 ((rd_T34 l1 x5_1).f4).length c444_4) ∧ w'.cell? ⟨(ad444.add ((x5_1).toNat * 8)).block, (ad444.add ((x5_1).toNat * 8)).off + 5, none⟩ = some (.slice A444_5 ((rd_T34 l1 x5_1).f5).length c444_5) ∧ w'.cell? ⟨(ad444.add ((x5_1).toNat * 8)).block, (ad444.add ((x5_1).toNat * 8)).off + 6, none⟩ = some (.slice A444_6 ((rd_T34 l1 x5_1).f6).length c444_6) ∧ w'.cell? ⟨(ad444.add ((x5_1).toNat * 8)).block, (ad444.add ((x5_1).toNat * 8)).off + 7, none⟩ = some (.string ((rd_T34 l1 x5_1).f7))) (ds := []) #[false, false, false, false, false, false, false, false, false, false] (by kernel_rfl) rfl rfl ⟨(pw_cell_below HB.out hw443_0), (pw_cell_below HB.out hw443_1), (pw_cell_below HB.out hw443_2), (pw_cell_below HB.out hw443_3), (pw_cell_below HB.out hw443_4), (pw_cell_below HB.out hw443_5), (pw_cell_below HB.out hw443_6), (pw_cell_below HB.out hw443_7), (pw_cell_below HB.out hw444_0), (pw_cell_below HB.out hw444_1), (pw_cell_below HB.out hw444_2), (pw_cell_below HB.out hw444_3), (pw_cell_below HB.out hw444_4), (pw_cell_below HB.out hw444_5), (pw_cell_below HB.out hw444_6), (pw_cell_below HB.out hw444_7)⟩ (fun hHeld => ?_); refine with_tabW laws_eqNodeS.tab6 laws_eqNodeS.bits6 (fun HT_ HW_ => ?_)
        generalize wr.drew = w9 at HB HR443_4 HR443_5 HR443_6 HR444_4 HR444_5 HR444_6 hx443_0 hx443_1 hx443_2 hx443_3 hx443_4 hx443_5 hx443_6 hx443_7 hx444_0 hx444_1 hx444_2 hx444_3 hx444_4 hx444_5 hx444_6 hx444_7 hHeld ⊢
        refine pU 0 17 (tf 1 9) ?_
        refine pU 1 18 (tf 2 8) ?_
        refine pU 2 19 (tf 3 7) ?_
        refine pU 4 21 #[true, true, true, false, true, false, false, false, false, false] ?_
        refine pU 5 22 #[true, true, true, false, true, true, false, false, false, false] ?_
        refine pU 6 23 #[true, true, true, false, true, true, true, false, false, false] ?_
        refine take_ (i := 3) (N := some 20) (v := ?_) (a' := ?_) (tf 7 3) rfl rfl (take_ofW HT_.out HW_.out (by kernel_rfl)) (fun _ _ _ h => h) (Or.inl ⟨by rfl, ?_⟩) hHeld ?_ ?_
        rotate_left
        ·rintro w' ⟨s0, s1, s2, s3, s4, s5, s6, s7, s8, s9, s10, s11, s12, s13, s14, s15⟩
         go_simp
         with_reducible rfl
        rotate_left
        ·simp only [Act.put, sT, sZ, sS, i64_w, i32_w]
         rfl
        refine take_ (i := 7) (N := some 24) (v := ?_) (a' := ?_) (tf 8 2) rfl rfl (take_ofW HT_.out HW_.out (by kernel_rfl)) (fun _ _ _ h => h) (Or.inl ⟨by rfl, ?_⟩) hHeld ?_ ?_
        rotate_left
        ·rintro w' ⟨s0, s1, s2, s3, s4, s5, s6, s7, s8, s9, s10, s11, s12, s13, s14, s15⟩
         go_simp
         with_reducible rfl
        rotate_left
        ·simp only [Act.put, sT, sZ, sS, i64_w, i32_w]
         rfl
        refine one_ (i := 8) (N := some 25) (tf 9 1) rfl rfl (one_of HT_.out (by kernel_rfl)) (by decide) (fun K hK => ?_)
        refine goes_ Try.func11 (by kernel_rfl) rfl #[.agg #[.int .i64 ((rd_T34 l0 x5_1).f0), .string ((rd_T34 l0 x5_1).f1), .string ((rd_T34 l0 x5_1).f2), .string ((rd_T34 l0 x5_1).f3), .slice A443_4 ((rd_T34 l0 x5_1).f4).length c443_4, .slice A443_5 ((rd_T34 l0 x5_1).f5).length c443_5, .slice A443_6 ((rd_T34 l0 x5_1).f6).length c443_6, .string ((rd_T34 l0 x5_1).f7)], .agg #[.int .i64 ((rd_T34 l1 x5_1).f0), .string ((rd_T34 l1 x5_1).f1), .string ((rd_T34 l1 x5_1).f2), .string ((rd_T34 l1 x5_1).f3), .slice A444_4 ((rd_T34 l1 x5_1).f4).length c444_4, .slice A444_5 ((rd_T34 l1 x5_1).f5).length c444_5, .slice A444_6 ((rd_T34 l1 x5_1).f6).length c444_6, .string ((rd_T34 l1 x5_1).f7)]] (by rfl) rfl rfl mA ?_
        with_reducible refine (laws_eqNode.callsF (laws_eqNodeS.f k1) (ih k1 (by first | omega | (have := HK1.out; omega))) k1 ((rd_T34 l0 x5_1).f0) ((rd_T34 l0 x5_1).f1) ((rd_T34 l0 x5_1).f2) ((rd_T34 l0 x5_1).f3) _ _ ((rd_T34 l0 x5_1).f4) _ _ ((rd_T34 l0 x5_1).f5) _ _ ((rd_T34 l0 x5_1).f6) ((rd_T34 l0 x5_1).f7) ((rd_T34 l1 x5_1).f0) ((rd_T34 l1 x5_1).f1) ((rd_T34 l1 x5_1).f2) ((rd_T34 l1 x5_1).f3) _ _ ((rd_T34 l1 x5_1).f4) _ _ ((rd_T34 l1 x5_1).f5) _ _ ((rd_T34 l1 x5_1).f6) ((rd_T34 l1 x5_1).f7) true _ ?side1 ?side2 ?side3 ?side4 ?side5 ?side6 ?side7 ?side8 ?side9 ?side10 ?side11 ?side12 A7.out).mono ?_
        (case side1 => repeat (first | exact (Kd.C_below HR443_4.out HB.out) | (with_reducible refine Kd.C_alloc ?_ _) | (with_reducible refine Kd.C_drewN ?_ _) | (with_reducible refine Kd.C_drew ?_)))
        (case side2 => exact HC443_4.out)
        (case side3 => repeat (first | exact (Kd.C_below HR443_5.out HB.out) | (with_reducible refine Kd.C_alloc ?_ _) | (with_reducible refine Kd.C_drewN ?_ _) | (with_reducible refine Kd.C_drew ?_)))
        (case side4 => exact HC443_5.out)
        (case side5 => repeat (first | exact (Kd.C_below HR443_6.out HB.out) | (with_reducible refine Kd.C_alloc ?_ _) | (with_reducible refine Kd.C_drewN ?_ _) | (with_reducible refine Kd.C_drew ?_)))
        (case side6 => exact HC443_6.out)
        (case side7 => repeat (first | exact (Kd.C_below HR444_4.out HB.out) | (with_reducible refine Kd.C_alloc ?_ _) | (with_reducible refine Kd.C_drewN ?_ _) | (with_reducible refine Kd.C_drew ?_)))
        (case side8 => exact HC444_4.out)
        (case side9 => repeat (first | exact (Kd.C_below HR444_5.out HB.out) | (with_reducible refine Kd.C_alloc ?_ _) | (with_reducible refine Kd.C_drewN ?_ _) | (with_reducible refine Kd.C_drew ?_)))
        (case side10 => exact HC444_5.out)
        (case side11 => repeat (first | exact (Kd.C_below HR444_6.out HB.out) | (with_reducible refine Kd.C_alloc ?_ _) | (with_reducible refine Kd.C_drewN ?_ _) | (with_reducible refine Kd.C_drew ?_)))
        (case side12 => exact HC444_6.out)
        rintro e w10 ⟨rfl, hb⟩
        refine ⟨_, rfl, ?_⟩
        replace HB := Aside0.mk (below_step hB hb)
        (try clear hb)
        (try clear hb2)
        (try clear hk)
        (try clear hi)
        refine hK.out _ _ ⟨(pw_cell_below HB.out hw443_0), (pw_cell_below HB.out hw443_1), (pw_cell_below HB.out hw443_2), (pw_cell_below HB.out hw443_3), (pw_cell_below HB.out hw443_4), (pw_cell_below HB.out hw443_5), (pw_cell_below HB.out hw443_6), (pw_cell_below HB.out hw443_7), (pw_cell_below HB.out hw444_0), (pw_cell_below HB.out hw444_1), (pw_cell_below HB.out hw444_2), (pw_cell_below HB.out hw444_3), (pw_cell_below HB.out hw444_4), (pw_cell_below HB.out hw444_5), (pw_cell_below HB.out hw444_6), (pw_cell_below HB.out hw444_7)⟩ (fun hHeld => ?_)
        clear hK K
        refine norm_ (a' := ?_) ?_ ?_
        rotate_left
        ·show Act.put _ (some 25) _ = _
         simp only [Act.put, sT, sZ, sS, i64_w, i32_w]
         rfl
        refine pU 9 26 (tf 10 0) ?_
        refine done_ (done_of HT_.out (by kernel_rfl)) ?_
        try go_wp2
        go_roundg k1
        case measure => have := HK1.out; omega
        case rel => exact ⟨(wrap64 (x5_1 + 1)), rG, H', ⟨by have := HK1.out; omega⟩, ⟨hB⟩⟩
       ·rw [if_neg c8] at H
        exact absurd H (by simp)
      ·rw [if_neg c6] at H
       exact absurd H (by simp)
     ·rw [if_neg c5] at H
      exact absurd H (by simp)
    ·rw [if_neg c4] at H
     have c4b0 : decide (x5_1 < (l0.length : Int)) = false := decide_eq_false c4
     clear c4
     first | obtain rfl := Option.some.inj H | clear H
     go_wp2
     go_ret
     exact ⟨rE, hB⟩
 ·rw [if_neg c3] at H
  exact absurd H (by simp)
def laws_eqNode.f (k : Nat) (a0_0 : Int) (a0_1 : ByteArray) (a0_2 : ByteArray) (a0_3 : ByteArray) (l0_4 : List (S69)) (l0_5 : List (S71)) (l0_6 : List (S34)) (a0_7 : ByteArray) (a1_0 : Int) (a1_1 : ByteArray) (a1_2 : ByteArray) (a1_3 : ByteArray) (l1_4 : List (S69)) (l1_5 : List (S71)) (l1_6 : List (S34)) (a1_7 : ByteArray) : Option (Bool) := laws_eqNode.F (laws_eqNodeS.f k) k a0_0 a0_1 a0_2 a0_3 l0_4 l0_5 l0_6 a0_7 a1_0 a1_1 a1_2 a1_3 l1_4 l1_5 l1_6 a1_7
theorem laws_eqNode.calls (k : Nat) (a0_0 : Int) (a0_1 : ByteArray) (a0_2 : ByteArray) (a0_3 : ByteArray) (A0_4 : Option Addr) (c0_4 : Nat) (l0_4 : List (S69)) (A0_5 : Option Addr) (c0_5 : Nat) (l0_5 : List (S71)) (A0_6 : Option Addr) (c0_6 : Nat) (l0_6 : List (S34)) (a0_7 : ByteArray) (a1_0 : Int) (a1_1 : ByteArray) (a1_2 : ByteArray) (a1_3 : ByteArray) (A1_4 : Option Addr) (c1_4 : Nat) (l1_4 : List (S69)) (A1_5 : Option Addr) (c1_5 : Nat) (l1_5 : List (S71)) (A1_6 : Option Addr) (c1_6 : Nat) (l1_6 : List (S34)) (a1_7 : ByteArray) (r_ : Bool) (w : World) (hr0_4 : Kd.C k69 w A0_4 l0_4.length l0_4) (hc0_4 : l0_4.length ≤ c0_4) (hr0_5 : Kd.C k71 w A0_5 l0_5.length l0_5) (hc0_5 : l0_5.length ≤ c0_5) (hr0_6 : Kd.C k34 w A0_6 l0_6.length l0_6) (hc0_6 : l0_6.length ≤ c0_6) (hr1_4 : Kd.C k69 w A1_4 l1_4.length l1_4) (hc1_4 : l1_4.length ≤ c1_4) (hr1_5 : Kd.C k71 w A1_5 l1_5.length l1_5) (hc1_5 : l1_5.length ≤ c1_5) (hr1_6 : Kd.C k34 w A1_6 l1_6.length l1_6) (hc1_6 : l1_6.length ≤ c1_6) (h : laws_eqNode.f k a0_0 a0_1 a0_2 a0_3 l0_4 l0_5 l0_6 a0_7 a1_0 a1_1 a1_2 a1_3 l1_4 l1_5 l1_6 a1_7 = some true) :
  Calls Try.prog 11 #[.agg #[.int .i64 a0_0, .string a0_1, .string a0_2, .string a0_3, .slice A0_4 l0_4.length c0_4, .slice A0_5 l0_5.length c0_5, .slice A0_6 l0_6.length c0_6, .string a0_7], .agg #[.int .i64 a1_0, .string a1_1, .string a1_2, .string a1_3, .slice A1_4 l1_4.length c1_4, .slice A1_5 l1_5.length c1_5, .slice A1_6 l1_6.length c1_6, .string a1_7]] w fun e w' => e = .returned (.bool true) ∧ Below w.heap.size w w' := laws_eqNode.callsF (laws_eqNodeS.f k) (laws_eqNodeS.calls k) k a0_0 a0_1 a0_2 a0_3 A0_4 c0_4 l0_4 A0_5 c0_5 l0_5 A0_6 c0_6 l0_6 a0_7 a1_0 a1_1 a1_2 a1_3 A1_4 c1_4 l1_4 A1_5 c1_5 l1_5 A1_6 c1_6 l1_6 a1_7 r_ w hr0_4 hc0_4 hr0_5 hc0_5 hr0_6 hc0_6 hr1_4 hc1_4 hr1_5 hc1_5 hr1_6 hc1_6 h

/-! ### laws_markText: function 36 -/
def laws_markText.l0 : Nat → Int → ByteArray → Option (ByteArray)
 | 0, _, _ => none
 | k + 1, x0, x3 => if x0 > 0 then ((some (([(wrap64 (48 + (Int.tmod x0 10))) % 256] : List Int) : List Int)).bind fun y446 => (if (strOfNums y446).size + x3.size ≤ 9223372036854775807 then (laws_markText.l0 k (wrap64 (Int.tdiv x0 10)) ((strOfNums y446) ++ x3)) else (none))) else (if 1 + x3.size ≤ 9223372036854775807 then (some ((⟨#[109]⟩ : ByteArray) ++ x3)) else (none))
def laws_markText.f (k : Nat) (a0 : Int) : Option (ByteArray) := if a0 ≤ 0 then (some (⟨#[109, 48]⟩ : ByteArray)) else (laws_markText.l0 k a0 (⟨#[]⟩ : ByteArray))
theorem laws_markText.calls (k : Nat) (a0 : Int) (r : ByteArray) (w : World) (h : laws_markText.f k a0 = some r) :
  Calls Try.prog 36 #[.int .i64 a0] w fun e w' => e = .returned (.string r) ∧ Below w.heap.size w w' := by
 have HB := Aside0.mk (Below.refl w.heap.size w)
 have H : (if a0 ≤ 0 then (some (⟨#[109, 48]⟩ : ByteArray)) else (laws_markText.l0 k a0 (⟨#[]⟩ : ByteArray))) = some r := h
 clear h
 by_cases c2 : a0 ≤ 0
 ·rw [if_pos c2] at H
  have c2b0 : decide (a0 ≤ 0) = true := decide_eq_true c2
  clear c2
  obtain rfl := Option.some.inj H
  go_enter Try.func36, Try.ntmps36
  go_wp2
  go_ret
  exact ⟨rE, hB⟩
 ·rw [if_neg c2] at H
  have c2b0 : decide (a0 ≤ 0) = false := decide_eq_false c2
  clear c2
  have H' := Aside0.mk H
  clear H
  go_enter Try.func36, Try.ntmps36
  go_wp2
  go_loopg [0, 3] k (fun kq v0 v3 w' => ∃ (x0_1 : Int) (x3_1 : ByteArray), v0 = .int .i64 x0_1 ∧ v3 = .string x3_1 ∧ Aside0 (laws_markText.l0 kq x0_1 x3_1 = some r) ∧ Aside0 (kq ≤ k) ∧ Aside0 (Below w.heap.size w w'))
  case atStart => exact ⟨(a0), ((⟨#[]⟩ : ByteArray)), rG, rG, H', ⟨Nat.le_refl _⟩, ⟨hB⟩⟩
  case round =>
   clear H'
   try clear c2; try clear c2b0
   obtain ⟨x0_1, x3_1, rfl, rfl, HA, HK1, HB⟩ := hrel
   cases gk with
   | zero => exact absurd HA.out (by simp [laws_markText.l0])
   | succ k1 =>
    have H := HA.out
    clear HA
    simp only [laws_markText.l0] at H
    by_cases c3 : x0_1 > 0
    ·rw [if_pos c3] at H
     have c3b0 : decide (0 < x0_1) = true := decide_eq_true c3
     clear c3
     obtain ⟨y446, hy446⟩ : ∃ y_ : List Int, y_ = (([(wrap64 (48 + (Int.tmod x0_1 10))) % 256] : List Int)) := ⟨_, rfl⟩
     replace H : (if (strOfNums y446).size + x3_1.size ≤ 9223372036854775807 then (laws_markText.l0 k1 (wrap64 (Int.tdiv x0_1 10)) ((strOfNums y446) ++ x3_1)) else (none)) = some r := by first | (rw [hy446]; with_reducible exact H) | (have H2_ := (Option.bind_some _ _).symm.trans H; rw [hy446]; with_reducible exact H2_) | (have H2_ := (Option.bind_some _ _).symm.trans H; with_reducible exact H2_) | with_reducible exact H | (rw [hy446]; exact H) | exact H
     have Ny446 := Aside0.mk hy446
     clear hy446
     obtain ⟨c4, H⟩ := if_som H
     obtain ⟨c4b0, c4b1⟩ := fcT c4
     try have c4b2 : (9223372036854775807 < (strOfNums y446).size + x3_1.size) = False := eq_false (Nat.not_lt.2 c4)
     have H' := Aside0.mk H
     clear H
     go_wp2_with (first | ((with_reducible refine gate_dst (N := 12) rfl ?_); refine Kd.R_lit (Kd.int .u8) _ 5 ?hg (N := 12) ?hd (xs := ([(wrap64 (48 + (Int.tmod x0_1 10))) % 256] : List Int)) (inner := [.int .u8 ((wrap64 (48 + (Int.tmod x0_1 10))) % 256)]) (ok := fun _ => True) (okp := fun _ => True) ?hr ?hp (fun _ hk => hk) trivial (Below.refl _ _) (Nat.le_refl _) (by simp) ?_; (case hd => rfl); (case hg => rfl); (case hr => first | (go_simp; done) | (go_simp; rfl)); (case hp => exact (Reps.one (show Kd.M (Kd.int .u8) _ _ _ ((wrap64 (48 + (Int.tmod x0_1 10))) % 256) [.int .u8 ((wrap64 (48 + (Int.tmod x0_1 10))) % 256)] from rfl) (Reps.none _ _))); intro v447 w5 ho6 hb hg_ hnew_; clear hg_ hnew_; (first | rw [← Ny446.out] at ho6 | (simp only [Int.reduceToNat] at ho6; rw [← Ny446.out] at ho6)); have HO448 := Aside0.mk (Kd.R_lower ho6 (below_size hB)); replace HB := Aside0.mk (below_step hB hb); clear hb ho6; have hcv7 := own_string (P := Try.prog) Try.underlying78 Try.underlying5 Try.underlying9 (Kd.own_of_R HO448.out)))
     go_roundg k1
     case measure => have := HK1.out; omega
     case rel => exact ⟨(wrap64 (Int.tdiv x0_1 10)), ((strOfNums y446) ++ x3_1), rG, rG, H', ⟨by have := HK1.out; omega⟩, ⟨hB⟩⟩
    ·rw [if_neg c3] at H
     have c3b0 : decide (0 < x0_1) = false := decide_eq_false c3
     clear c3
     obtain ⟨c8, H⟩ := if_som H
     obtain ⟨c8b0, c8b1⟩ := fcT c8
     try have c8b2 : (9223372036854775807 < 1 + x3_1.size) = False := eq_false (Nat.not_lt.2 c8)
     obtain rfl := Option.some.inj H
     go_wp2
     go_ret
     exact ⟨rE, hB⟩
/-! ### laws_markDeclS: function 34 -/
def laws_markDeclS.l0 : Nat → List (S69) → Int → Int → Option (Int × (List (S69)))
 | 0, _, _, _ => none
 | k + 1, x0, x1, x5 => if x5 < (x0.length : Int) then ((laws_markText.f k x1).bind fun t449 => (if 0 ≤ x5 then ((some (x0.set (x5 : Int).toNat (⟨t449, (rd_T69 x0 x5).f1⟩ : S69) : List (S69))).bind fun y450 => ((laws_markText.f k (wrap64 (x1 + 1))).bind fun t451 => (laws_markDeclS.l0 k (y450.set (x5 : Int).toNat (⟨(rd_T69 y450 x5).f0, t451⟩ : S69)) (wrap64 ((wrap64 (x1 + 1)) + 1)) (wrap64 (x5 + 1))))) else (none))) else (some (x1, x0))
def laws_markDeclS.f (k : Nat) (l0 : List (S69)) (a1 : Int) : Option (Int × (List (S69))) := laws_markDeclS.l0 k l0 a1 0
theorem laws_markDeclS.calls (k : Nat) (P0_ : Nat → Prop) (u9000_ : Value) (l0 : List (S69)) (a1 : Int) (r1 : Int) (r2 : List (S69)) (w0 w : World) (hB : Below w0.heap.size w0 w) (ho0 : Kd.R k69 69 w w0.heap.size P0_ u9000_ l0) (h : laws_markDeclS.f k l0 a1 = some (r1, r2)) :
  Calls Try.prog 34 #[u9000_, .int .i64 a1] w fun e w' => e = .returned (.int .i64 r1) ∧ Kd.R k69 69 w' w0.heap.size (fun k_ => (P0_ k_ ∨ w.heap.size ≤ k_)) u9000_ r2 ∧ Below w0.heap.size w0 w' ∧ Kept w w' (fun k_ => P0_ k_) := by
 have HO0 := Aside0.mk (show Kd.R k69 69 w w0.heap.size (fun k_ => (P0_ k_ ∨ w.heap.size ≤ k_)) u9000_ l0 from Kd.R_mono ho0 (fun k_ hk => (.inl hk)))
 have HK := Aside0.mk (Kept.refl w (fun k_ => P0_ k_))
 have HW0 := Aside0.mk hB.size
 have HB := Aside0.mk hB
 clear hB
 have H : (laws_markDeclS.l0 k l0 a1 0) = some (r1, r2) := h
 clear h
 have H' := Aside0.mk H
 clear H
 go_enter Try.func34, Try.ntmps34
 go_wp2
 go_loopg [1, 5] k (fun kq v1 v5 w' => ∃ (x0_1 : List (S69)) (x1_1 : Int) (x5_1 : Int), v1 = .int .i64 x1_1 ∧ v5 = .int .i64 x5_1 ∧ Aside0 (laws_markDeclS.l0 kq x0_1 x1_1 x5_1 = some (r1, r2)) ∧ Aside0 (kq ≤ k) ∧ Aside0 (Kd.R k69 69 w' w0.heap.size (fun k_ => (P0_ k_ ∨ w.heap.size ≤ k_)) u9000_ x0_1) ∧ Aside0 (Kept w w' (fun k_ => P0_ k_)) ∧ Aside0 (Below w0.heap.size w0 w'))
 case atStart => exact ⟨(l0), (a1), (0), rG, rG, H', ⟨Nat.le_refl _⟩, ⟨by (with_reducible repeat (first|apply rA|apply rN|apply rD)); exact HO0.out⟩, ⟨by repeat (first|(with_reducible first|exact HK.out | apply Kept.alloc | apply Kept.drewN | apply Kept.drew) | exact HK.out)⟩, ⟨hB⟩⟩
 case round =>
  clear H'
  obtain ⟨x0_1, x1_1, x5_1, rfl, rfl, HA, HK1, HO_0, HK, HB⟩ := hrel
  cases gk with
  | zero => exact absurd HA.out (by simp [laws_markDeclS.l0])
  | succ k1 =>
   have H := HA.out
   clear HA
   simp only [laws_markDeclS.l0] at H
   by_cases c3 : x5_1 < (x0_1.length : Int)
   ·rw [if_pos c3] at H
    have c3b0 : decide (x5_1 < (x0_1.length : Int)) = true := decide_eq_true c3
    clear c3
    replace H := Option.bind_eq_some_iff.mp H
    obtain ⟨t449, A40, H⟩ := H
    try dsimp only at H
    have A4 := Aside0.mk A40
    clear A40
    obtain ⟨Ao5, co5, eo5⟩ := Kd.R_slice HO_0.out
    subst eo5
    go_wp2_with (first | ((with_reducible refine gate_callee (f := 36) rfl ?_); refine goesL_ (some 15) rfl rfl Try.func36 (by kernel_rfl) rfl #[.int .i64 x1_1] rfl mA ?_; (with_reducible refine (laws_markText.calls k1 x1_1 t449 _ A4.out).mono ?_); rintro e w6 ⟨rfl, hb⟩; refine ⟨_, rfl, ?_⟩; replace HO_0 := Aside0.mk (Kd.R_below (by (with_reducible repeat (first|apply rA|apply rN|apply rD)); exact HO_0.out) hb); replace HK := Aside0.mk (Kept.below (S := (fun k_ => P0_ k_)) (by repeat (first|(with_reducible first|exact HK.out | apply Kept.alloc | apply Kept.drewN | apply Kept.drew) | exact HK.out)) hb); replace HB := Aside0.mk (below_step hB hb); (try clear hb); (try clear hb2); (try clear hk); (try clear hi); refine halt_ ?_; intro q_ hq_))
    obtain ⟨rfl⟩ := hq_
    obtain ⟨c7, H⟩ := if_som H
    have c7b0 : decide (0 ≤ x5_1) = true := decide_eq_true c7
    clear c7
    obtain ⟨y450, hy450⟩ : ∃ y_ : List (S69), y_ = (x0_1.set (x5_1 : Int).toNat (⟨t449, (rd_T69 x0_1 x5_1).f1⟩ : S69)) := ⟨_, rfl⟩
    replace H : ((laws_markText.f k1 (wrap64 (x1_1 + 1))).bind fun t451 => (laws_markDeclS.l0 k1 (y450.set (x5_1 : Int).toNat (⟨(rd_T69 y450 x5_1).f0, t451⟩ : S69)) (wrap64 ((wrap64 (x1_1 + 1)) + 1)) (wrap64 (x5_1 + 1)))) = some (r1, r2) := by first | (rw [hy450]; with_reducible exact H) | (have H2_ := (Option.bind_some _ _).symm.trans H; rw [hy450]; with_reducible exact H2_) | (have H2_ := (Option.bind_some _ _).symm.trans H; with_reducible exact H2_) | with_reducible exact H | (rw [hy450]; exact H) | exact H
    have Ny450 := Aside0.mk hy450
    clear hy450
    replace H := Option.bind_eq_some_iff.mp H
    obtain ⟨t451, A90, H⟩ := H
    try dsimp only at H
    have A9 := Aside0.mk A90
    clear A90
    obtain ⟨y452, hy452⟩ : ∃ y_ : List (S69), y_ = (y450.set (x5_1 : Int).toNat (⟨(rd_T69 y450 x5_1).f0, t451⟩ : S69)) := ⟨_, rfl⟩
    replace H : (laws_markDeclS.l0 k1 y452 (wrap64 ((wrap64 (x1_1 + 1)) + 1)) (wrap64 (x5_1 + 1))) = some (r1, r2) := by first | (rw [hy452]; with_reducible exact H) | (have H2_ := (Option.bind_some _ _).symm.trans H; rw [hy452]; with_reducible exact H2_) | (have H2_ := (Option.bind_some _ _).symm.trans H; with_reducible exact H2_) | with_reducible exact H | (rw [hy452]; exact H) | exact H
    have Ny452 := Aside0.mk hy452
    clear hy452
    have H' := Aside0.mk H
    clear H
    have p8 : 0 ≤ (x5_1 : Int) := odt
    have q8 : (x5_1 : Int) < ((x0_1.length : Int) : Int) := odt
    obtain ⟨go8, co8, eo8, gb8, gl8, cl8, HG8⟩ := Kd.R_form HO_0.out (by omega)
    (first | cases eo8 | (injection eo8 with ea_ en_ ec_; (first | subst ea_ | (injection ea_ with ea_; subst ea_)); subst ec_; clear en_))
    have GB8 := Aside0.mk gb8
    have GG8 := Aside0.mk HG8
    clear gb8 gl8 HG8
    have HMgo8 := Aside0.mk (show (P0_ go8 ∨ w.heap.size ≤ go8) from (HO_0.out.1 _ rfl))
    obtain ⟨ce8, hcl8, hM8, hcc8, hfr8⟩ := Kd.R_elem HO_0.out z69 (x5_1 : Int) p8 q8
    obtain rfl := k69_openM hM8
    have hx8_0 : w6.cell? ⟨go8, (x5_1 : Int).toNat * 2, none⟩ = some (.string ((rd_T69 x0_1 x5_1).f0)) := hcc8 0 _ rfl
    have hx8_1 : w6.cell? ⟨go8, (x5_1 : Int).toNat * 2 + 1, none⟩ = some (.string ((rd_T69 x0_1 x5_1).f1)) := hcc8 1 _ rfl
    have hf8_0 : w6.frozen? ⟨go8, (x5_1 : Int).toNat * 2, none⟩ = false := hfr8 0
    have hf8_1 : w6.frozen? ⟨go8, (x5_1 : Int).toNat * 2 + 1, none⟩ = false := hfr8 1
    clear hcl8 hcc8 hfr8 hM8
    replace p8 := eq_true p8
    replace q8 := eq_true q8
    have HX11 := Aside0.mk (show Kd.R k69 69 w6 w0.heap.size (fun k_ => (P0_ k_ ∨ w.heap.size ≤ k_)) (.slice (some ⟨go8, 0, none⟩) x0_1.length co5) x0_1 from (by (with_reducible repeat (first|apply rA|apply rN|apply rD)); exact HO_0.out))
    obtain ⟨ce11, hcl11, hM11, hcc11, hfr11⟩ := Kd.R_elem HX11.out z69 (x5_1 : Int) (odt) (by have h_ : (x5_1 : Int) < ((x0_1.length : Int) : Int) := odt; first | exact h_ | (have e_ := (Kd.R_reads' HO_0.out).1; omega) | simpa using h_)
    obtain rfl := k69_openM hM11
    have HP11 := Kd.R_seg HX11.out (x5_1 : Int) (odt) (by have h_ : (x5_1 : Int) < ((x0_1.length : Int) : Int) := odt; first | exact h_ | (have e_ := (Kd.R_reads' HO_0.out).1; omega) | simpa using h_) (seg := [.string t449]) (j := 0) hcl11 hcc11 (show 1 ≤ 2 from by decide) (x' := (⟨t449, (rd_T69 x0_1 x5_1).f1⟩ : S69)) (k69_mkM _ _ _ (⟨t449, (rd_T69 x0_1 x5_1).f1⟩ : S69) ) (fun _ hk => hk)
    have hx11_0 := hcc11 0 _ rfl
    (try simp only [show (k69).sz = 2 from rfl, Nat.mul_one, Nat.add_zero] at hx11_0)
    have hf11_0 := hfr11 0
    (try simp only [show (k69).sz = 2 from rfl, Nat.mul_one, Nat.add_zero] at hf11_0)
    clear hcl11 hcc11 hfr11 hM11
    go_wp2_with (first | ((with_reducible refine gate_store (t := 9) (p := 17) rfl ?_); refine store_event (t := 9) (p := 17) (v := ?vo_w12) (w1 := (w6.setCell ⟨go8, (x5_1 : Int).toNat * 2, none⟩ (.string t449))) ?hg ?ho ?hn ?hr ?_; (case ho => rfl); (case hg => rfl); (case hn => rfl); (case hr => first | (go_simp; done) | (go_simp; rfl)); intro w12 hw; have hg : w6.grownBy w12 (some go8) := (by rw [hw]; exact HP11.2); have hp_ : Kd.R k69 69 w12 w0.heap.size (fun k_ => (P0_ k_ ∨ w.heap.size ≤ k_)) (.slice (some ⟨go8, 0, none⟩) x0_1.length co5) y450 := (by rw [hw, Ny450.out]; exact HP11.1); clear HP11; replace HB := Aside0.mk ((by rw [hw]; exact below_set (HB.out) GB8.out : Below w0.heap.size w0 w12)); replace HK := Aside0.mk (Kept.of_grown (S := (fun k_ => P0_ k_)) hg (by repeat (first|(with_reducible first|exact HK.out | apply Kept.alloc | apply Kept.drewN | apply Kept.drew) | exact HK.out)) (fun k_ e_ => (HO_0.out.1 k_ e_))); replace HO_0 := Aside0.mk (hp_); clear hg hw hp_) | ((with_reducible refine gate_callee (f := 36) rfl ?_); refine goesL_ (some 23) rfl rfl Try.func36 (by kernel_rfl) rfl #[.int .i64 (wrap64 (x1_1 + 1))] rfl mA ?_; (with_reducible refine (laws_markText.calls k1 (wrap64 (x1_1 + 1)) t451 _ A9.out).mono ?_); rintro e w13 ⟨rfl, hb⟩; refine ⟨_, rfl, ?_⟩; replace HO_0 := Aside0.mk (Kd.R_below (by (with_reducible repeat (first|apply rA|apply rN|apply rD)); exact HO_0.out) hb); replace HK := Aside0.mk (Kept.below (S := (fun k_ => P0_ k_)) (by repeat (first|(with_reducible first|exact HK.out | apply Kept.alloc | apply Kept.drewN | apply Kept.drew) | exact HK.out)) hb); replace HB := Aside0.mk (below_step hB hb); (try clear hb); (try clear hb2); (try clear hk); (try clear hi); have p10 : 0 ≤ (x5_1 : Int) := odt; have q10 : (x5_1 : Int) < ((x0_1.length : Int) : Int) := odt; obtain ⟨ce10, hcl10, hM10, hcc10, hfr10⟩ := Kd.R_elem HO_0.out z69 (x5_1 : Int) p10 q10; obtain rfl := k69_openM hM10; have hx10_0 : w13.cell? ⟨go8, (x5_1 : Int).toNat * 2, none⟩ = some (.string ((rd_T69 y450 x5_1).f0)) := hcc10 0 _ rfl; have hx10_1 : w13.cell? ⟨go8, (x5_1 : Int).toNat * 2 + 1, none⟩ = some (.string ((rd_T69 y450 x5_1).f1)) := hcc10 1 _ rfl; have hf10_0 : w13.frozen? ⟨go8, (x5_1 : Int).toNat * 2, none⟩ = false := hfr10 0; have hf10_1 : w13.frozen? ⟨go8, (x5_1 : Int).toNat * 2 + 1, none⟩ = false := hfr10 1; clear hcl10 hcc10 hfr10 hM10; replace p10 := eq_true p10; replace q10 := eq_true q10; have HX14 := Aside0.mk (show Kd.R k69 69 w13 w0.heap.size (fun k_ => (P0_ k_ ∨ w.heap.size ≤ k_)) (.slice (some ⟨go8, 0, none⟩) x0_1.length co5) y450 from (by (with_reducible repeat (first|apply rA|apply rN|apply rD)); exact HO_0.out)); obtain ⟨ce14, hcl14, hM14, hcc14, hfr14⟩ := Kd.R_elem HX14.out z69 (x5_1 : Int) (odt) (by have h_ : (x5_1 : Int) < ((x0_1.length : Int) : Int) := odt; first | exact h_ | (have e_ := (Kd.R_reads' HO_0.out).1; omega) | simpa using h_); obtain rfl := k69_openM hM14; have HP14 := Kd.R_seg HX14.out (x5_1 : Int) (odt) (by have h_ : (x5_1 : Int) < ((x0_1.length : Int) : Int) := odt; first | exact h_ | (have e_ := (Kd.R_reads' HO_0.out).1; omega) | simpa using h_) (seg := [.string t451]) (j := 1) hcl14 hcc14 (show 2 ≤ 2 from by decide) (x' := (⟨(rd_T69 y450 x5_1).f0, t451⟩ : S69)) (k69_mkM _ _ _ (⟨(rd_T69 y450 x5_1).f0, t451⟩ : S69) ) (fun _ hk => hk); have hx14_1 := hcc14 1 _ rfl; (try simp only [show (k69).sz = 2 from rfl, Nat.mul_one, Nat.add_zero] at hx14_1); have hf14_1 := hfr14 1; (try simp only [show (k69).sz = 2 from rfl, Nat.mul_one, Nat.add_zero] at hf14_1); clear hcl14 hcc14 hfr14 hM14) | ((with_reducible refine gate_store (t := 9) (p := 25) rfl ?_); refine store_event (t := 9) (p := 25) (v := ?vo_w15) (w1 := (w13.setCell ⟨go8, (x5_1 : Int).toNat * 2 + 1, none⟩ (.string t451))) ?hg ?ho ?hn ?hr ?_; (case ho => rfl); (case hg => rfl); (case hn => rfl); (case hr => first | (go_simp; done) | (go_simp; rfl)); intro w15 hw; have hg : w13.grownBy w15 (some go8) := (by rw [hw]; exact HP14.2); have hp_ : Kd.R k69 69 w15 w0.heap.size (fun k_ => (P0_ k_ ∨ w.heap.size ≤ k_)) (.slice (some ⟨go8, 0, none⟩) x0_1.length co5) y452 := (by rw [hw, Ny452.out]; exact HP14.1); clear HP14; replace HB := Aside0.mk ((by rw [hw]; exact below_set (HB.out) GB8.out : Below w0.heap.size w0 w15)); replace HK := Aside0.mk (Kept.of_grown (S := (fun k_ => P0_ k_)) hg (by repeat (first|(with_reducible first|exact HK.out | apply Kept.alloc | apply Kept.drewN | apply Kept.drew) | exact HK.out)) (fun k_ e_ => (HO_0.out.1 k_ e_))); replace HO_0 := Aside0.mk (hp_); clear hg hw hp_))
    go_roundg k1
    case measure => have := HK1.out; omega
    case rel => exact ⟨(y452), (wrap64 ((wrap64 (x1_1 + 1)) + 1)), (wrap64 (x5_1 + 1)), rG, rG, H', ⟨by have := HK1.out; omega⟩, ⟨by (with_reducible repeat (first|apply rA|apply rN|apply rD)); exact HO_0.out⟩, ⟨by repeat (first|(with_reducible first|exact HK.out | apply Kept.alloc | apply Kept.drewN | apply Kept.drew) | exact HK.out)⟩, ⟨hB⟩⟩
   ·rw [if_neg c3] at H
    have c3b0 : decide (x5_1 < (x0_1.length : Int)) = false := decide_eq_false c3
    clear c3
    simp only [Option.some.injEq, Prod.mk.injEq] at H
    obtain ⟨rfl, rfl⟩ := H
    obtain ⟨Ao16, co16, eo16⟩ := Kd.R_slice HO_0.out
    subst eo16
    go_wp2
    go_ret
    exact ⟨rE, by (with_reducible repeat (first|apply rA|apply rN|apply rD)); exact HO_0.out, hB, by repeat (first|(with_reducible first|exact HK.out | apply Kept.alloc | apply Kept.drewN | apply Kept.drew) | exact HK.out)⟩

/-! ### laws_markAttrS: function 35 -/
def laws_markAttrS.l0 : Nat → List (S71) → Int → Int → Option (Int × (List (S71)))
 | 0, _, _, _ => none
 | k + 1, x0, x1, x5 => if x5 < (x0.length : Int) then ((laws_markText.f k x1).bind fun t453 => (if 0 ≤ x5 then ((some (x0.set (x5 : Int).toNat (⟨t453, (rd_T71 x0 x5).f1, (rd_T71 x0 x5).f2, (rd_T71 x0 x5).f3⟩ : S71) : List (S71))).bind fun y454 => ((laws_markText.f k (wrap64 (x1 + 1))).bind fun t455 => ((some (y454.set (x5 : Int).toNat (⟨(rd_T71 y454 x5).f0, t455, (rd_T71 y454 x5).f2, (rd_T71 y454 x5).f3⟩ : S71) : List (S71))).bind fun y456 => ((laws_markText.f k (wrap64 ((wrap64 (x1 + 1)) + 1))).bind fun t457 => ((some (y456.set (x5 : Int).toNat (⟨(rd_T71 y456 x5).f0, (rd_T71 y456 x5).f1, t457, (rd_T71 y456 x5).f3⟩ : S71) : List (S71))).bind fun y458 => ((laws_markText.f k (wrap64 ((wrap64 ((wrap64 (x1 + 1)) + 1)) + 1))).bind fun t459 => (laws_markAttrS.l0 k (y458.set (x5 : Int).toNat (⟨(rd_T71 y458 x5).f0, (rd_T71 y458 x5).f1, (rd_T71 y458 x5).f2, t459⟩ : S71)) (wrap64 ((wrap64 ((wrap64 ((wrap64 (x1 + 1)) + 1)) + 1)) + 1)) (wrap64 (x5 + 1))))))))) else (none))) else (some (x1, x0))
def laws_markAttrS.f (k : Nat) (l0 : List (S71)) (a1 : Int) : Option (Int × (List (S71))) := laws_markAttrS.l0 k l0 a1 0
theorem laws_markAttrS.calls (k : Nat) (P0_ : Nat → Prop) (u9000_ : Value) (l0 : List (S71)) (a1 : Int) (r1 : Int) (r2 : List (S71)) (w0 w : World) (hB : Below w0.heap.size w0 w) (ho0 : Kd.R k71 71 w w0.heap.size P0_ u9000_ l0) (h : laws_markAttrS.f k l0 a1 = some (r1, r2)) :
  Calls Try.prog 35 #[u9000_, .int .i64 a1] w fun e w' => e = .returned (.int .i64 r1) ∧ Kd.R k71 71 w' w0.heap.size (fun k_ => (P0_ k_ ∨ w.heap.size ≤ k_)) u9000_ r2 ∧ Below w0.heap.size w0 w' ∧ Kept w w' (fun k_ => P0_ k_) := by
 have HO0 := Aside0.mk (show Kd.R k71 71 w w0.heap.size (fun k_ => (P0_ k_ ∨ w.heap.size ≤ k_)) u9000_ l0 from Kd.R_mono ho0 (fun k_ hk => (.inl hk)))
 have HK := Aside0.mk (Kept.refl w (fun k_ => P0_ k_))
 have HW0 := Aside0.mk hB.size
 have HB := Aside0.mk hB
 clear hB
 have H : (laws_markAttrS.l0 k l0 a1 0) = some (r1, r2) := h
 clear h
 have H' := Aside0.mk H
 clear H
 go_enter Try.func35, Try.ntmps35
 go_wp2
 go_loopg [1, 5] k (fun kq v1 v5 w' => ∃ (x0_1 : List (S71)) (x1_1 : Int) (x5_1 : Int), v1 = .int .i64 x1_1 ∧ v5 = .int .i64 x5_1 ∧ Aside0 (laws_markAttrS.l0 kq x0_1 x1_1 x5_1 = some (r1, r2)) ∧ Aside0 (kq ≤ k) ∧ Aside0 (Kd.R k71 71 w' w0.heap.size (fun k_ => (P0_ k_ ∨ w.heap.size ≤ k_)) u9000_ x0_1) ∧ Aside0 (Kept w w' (fun k_ => P0_ k_)) ∧ Aside0 (Below w0.heap.size w0 w'))
 case atStart => exact ⟨(l0), (a1), (0), rG, rG, H', ⟨Nat.le_refl _⟩, ⟨by (with_reducible repeat (first|apply rA|apply rN|apply rD)); exact HO0.out⟩, ⟨by repeat (first|(with_reducible first|exact HK.out | apply Kept.alloc | apply Kept.drewN | apply Kept.drew) | exact HK.out)⟩, ⟨hB⟩⟩
 case round =>
  clear H'
  obtain ⟨x0_1, x1_1, x5_1, rfl, rfl, HA, HK1, HO_0, HK, HB⟩ := hrel
  cases gk with
  | zero => exact absurd HA.out (by simp [laws_markAttrS.l0])
  | succ k1 =>
   have H := HA.out
   clear HA
   simp only [laws_markAttrS.l0] at H
   by_cases c3 : x5_1 < (x0_1.length : Int)
   ·rw [if_pos c3] at H
    have c3b0 : decide (x5_1 < (x0_1.length : Int)) = true := decide_eq_true c3
    clear c3
    replace H := Option.bind_eq_some_iff.mp H
    obtain ⟨t453, A40, H⟩ := H
    try dsimp only at H
    have A4 := Aside0.mk A40
    clear A40
    obtain ⟨Ao5, co5, eo5⟩ := Kd.R_slice HO_0.out
    subst eo5
    go_wp2_with (first | ((with_reducible refine gate_callee (f := 36) rfl ?_); refine goesL_ (some 15) rfl rfl Try.func36 (by kernel_rfl) rfl #[.int .i64 x1_1] rfl mA ?_; (with_reducible refine (laws_markText.calls k1 x1_1 t453 _ A4.out).mono ?_); rintro e w6 ⟨rfl, hb⟩; refine ⟨_, rfl, ?_⟩; replace HO_0 := Aside0.mk (Kd.R_below (by (with_reducible repeat (first|apply rA|apply rN|apply rD)); exact HO_0.out) hb); replace HK := Aside0.mk (Kept.below (S := (fun k_ => P0_ k_)) (by repeat (first|(with_reducible first|exact HK.out | apply Kept.alloc | apply Kept.drewN | apply Kept.drew) | exact HK.out)) hb); replace HB := Aside0.mk (below_step hB hb); (try clear hb); (try clear hb2); (try clear hk); (try clear hi); refine halt_ ?_; intro q_ hq_))
    obtain ⟨rfl⟩ := hq_
    obtain ⟨c7, H⟩ := if_som H
    have c7b0 : decide (0 ≤ x5_1) = true := decide_eq_true c7
    clear c7
    obtain ⟨y454, hy454⟩ : ∃ y_ : List (S71), y_ = (x0_1.set (x5_1 : Int).toNat (⟨t453, (rd_T71 x0_1 x5_1).f1, (rd_T71 x0_1 x5_1).f2, (rd_T71 x0_1 x5_1).f3⟩ : S71)) := ⟨_, rfl⟩
    replace H : ((laws_markText.f k1 (wrap64 (x1_1 + 1))).bind fun t455 => ((some (y454.set (x5_1 : Int).toNat (⟨(rd_T71 y454 x5_1).f0, t455, (rd_T71 y454 x5_1).f2, (rd_T71 y454 x5_1).f3⟩ : S71) : List (S71))).bind fun y456 => ((laws_markText.f k1 (wrap64 ((wrap64 (x1_1 + 1)) + 1))).bind fun t457 => ((some (y456.set (x5_1 : Int).toNat (⟨(rd_T71 y456 x5_1).f0, (rd_T71 y456 x5_1).f1, t457, (rd_T71 y456 x5_1).f3⟩ : S71) : List (S71))).bind fun y458 => ((laws_markText.f k1 (wrap64 ((wrap64 ((wrap64 (x1_1 + 1)) + 1)) + 1))).bind fun t459 => (laws_markAttrS.l0 k1 (y458.set (x5_1 : Int).toNat (⟨(rd_T71 y458 x5_1).f0, (rd_T71 y458 x5_1).f1, (rd_T71 y458 x5_1).f2, t459⟩ : S71)) (wrap64 ((wrap64 ((wrap64 ((wrap64 (x1_1 + 1)) + 1)) + 1)) + 1)) (wrap64 (x5_1 + 1)))))))) = some (r1, r2) := by first | (rw [hy454]; with_reducible exact H) | (have H2_ := (Option.bind_some _ _).symm.trans H; rw [hy454]; with_reducible exact H2_) | (have H2_ := (Option.bind_some _ _).symm.trans H; with_reducible exact H2_) | with_reducible exact H | (rw [hy454]; exact H) | exact H
    have Ny454 := Aside0.mk hy454
    clear hy454
    replace H := Option.bind_eq_some_iff.mp H
    obtain ⟨t455, A90, H⟩ := H
    try dsimp only at H
    have A9 := Aside0.mk A90
    clear A90
    obtain ⟨y456, hy456⟩ : ∃ y_ : List (S71), y_ = (y454.set (x5_1 : Int).toNat (⟨(rd_T71 y454 x5_1).f0, t455, (rd_T71 y454 x5_1).f2, (rd_T71 y454 x5_1).f3⟩ : S71)) := ⟨_, rfl⟩
    replace H : ((laws_markText.f k1 (wrap64 ((wrap64 (x1_1 + 1)) + 1))).bind fun t457 => ((some (y456.set (x5_1 : Int).toNat (⟨(rd_T71 y456 x5_1).f0, (rd_T71 y456 x5_1).f1, t457, (rd_T71 y456 x5_1).f3⟩ : S71) : List (S71))).bind fun y458 => ((laws_markText.f k1 (wrap64 ((wrap64 ((wrap64 (x1_1 + 1)) + 1)) + 1))).bind fun t459 => (laws_markAttrS.l0 k1 (y458.set (x5_1 : Int).toNat (⟨(rd_T71 y458 x5_1).f0, (rd_T71 y458 x5_1).f1, (rd_T71 y458 x5_1).f2, t459⟩ : S71)) (wrap64 ((wrap64 ((wrap64 ((wrap64 (x1_1 + 1)) + 1)) + 1)) + 1)) (wrap64 (x5_1 + 1)))))) = some (r1, r2) := by first | (rw [hy456]; with_reducible exact H) | (have H2_ := (Option.bind_some _ _).symm.trans H; rw [hy456]; with_reducible exact H2_) | (have H2_ := (Option.bind_some _ _).symm.trans H; with_reducible exact H2_) | with_reducible exact H | (rw [hy456]; exact H) | exact H
    have Ny456 := Aside0.mk hy456
    clear hy456
    replace H := Option.bind_eq_some_iff.mp H
    obtain ⟨t457, A110, H⟩ := H
    try dsimp only at H
    have A11 := Aside0.mk A110
    clear A110
    obtain ⟨y458, hy458⟩ : ∃ y_ : List (S71), y_ = (y456.set (x5_1 : Int).toNat (⟨(rd_T71 y456 x5_1).f0, (rd_T71 y456 x5_1).f1, t457, (rd_T71 y456 x5_1).f3⟩ : S71)) := ⟨_, rfl⟩
    replace H : ((laws_markText.f k1 (wrap64 ((wrap64 ((wrap64 (x1_1 + 1)) + 1)) + 1))).bind fun t459 => (laws_markAttrS.l0 k1 (y458.set (x5_1 : Int).toNat (⟨(rd_T71 y458 x5_1).f0, (rd_T71 y458 x5_1).f1, (rd_T71 y458 x5_1).f2, t459⟩ : S71)) (wrap64 ((wrap64 ((wrap64 ((wrap64 (x1_1 + 1)) + 1)) + 1)) + 1)) (wrap64 (x5_1 + 1)))) = some (r1, r2) := by first | (rw [hy458]; with_reducible exact H) | (have H2_ := (Option.bind_some _ _).symm.trans H; rw [hy458]; with_reducible exact H2_) | (have H2_ := (Option.bind_some _ _).symm.trans H; with_reducible exact H2_) | with_reducible exact H | (rw [hy458]; exact H) | exact H
    have Ny458 := Aside0.mk hy458
    clear hy458
    replace H := Option.bind_eq_some_iff.mp H
    obtain ⟨t459, A130, H⟩ := H
    try dsimp only at H
    have A13 := Aside0.mk A130
    clear A130
    obtain ⟨y460, hy460⟩ : ∃ y_ : List (S71), y_ = (y458.set (x5_1 : Int).toNat (⟨(rd_T71 y458 x5_1).f0, (rd_T71 y458 x5_1).f1, (rd_T71 y458 x5_1).f2, t459⟩ : S71)) := ⟨_, rfl⟩
    replace H : (laws_markAttrS.l0 k1 y460 (wrap64 ((wrap64 ((wrap64 ((wrap64 (x1_1 + 1)) + 1)) + 1)) + 1)) (wrap64 (x5_1 + 1))) = some (r1, r2) := by first | (rw [hy460]; with_reducible exact H) | (have H2_ := (Option.bind_some _ _).symm.trans H; rw [hy460]; with_reducible exact H2_) | (have H2_ := (Option.bind_some _ _).symm.trans H; with_reducible exact H2_) | with_reducible exact H | (rw [hy460]; exact H) | exact H
    have Ny460 := Aside0.mk hy460
    clear hy460
    have H' := Aside0.mk H
    clear H
    have p8 : 0 ≤ (x5_1 : Int) := odt
    have q8 : (x5_1 : Int) < ((x0_1.length : Int) : Int) := odt
    obtain ⟨go8, co8, eo8, gb8, gl8, cl8, HG8⟩ := Kd.R_form HO_0.out (by omega)
    (first | cases eo8 | (injection eo8 with ea_ en_ ec_; (first | subst ea_ | (injection ea_ with ea_; subst ea_)); subst ec_; clear en_))
    have GB8 := Aside0.mk gb8
    have GG8 := Aside0.mk HG8
    clear gb8 gl8 HG8
    have HMgo8 := Aside0.mk (show (P0_ go8 ∨ w.heap.size ≤ go8) from (HO_0.out.1 _ rfl))
    obtain ⟨ce8, hcl8, hM8, hcc8, hfr8⟩ := Kd.R_elem HO_0.out z71 (x5_1 : Int) p8 q8
    obtain rfl := k71_openM hM8
    have hx8_0 : w6.cell? ⟨go8, (x5_1 : Int).toNat * 4, none⟩ = some (.string ((rd_T71 x0_1 x5_1).f0)) := hcc8 0 _ rfl
    have hx8_1 : w6.cell? ⟨go8, (x5_1 : Int).toNat * 4 + 1, none⟩ = some (.string ((rd_T71 x0_1 x5_1).f1)) := hcc8 1 _ rfl
    have hx8_2 : w6.cell? ⟨go8, (x5_1 : Int).toNat * 4 + 2, none⟩ = some (.string ((rd_T71 x0_1 x5_1).f2)) := hcc8 2 _ rfl
    have hx8_3 : w6.cell? ⟨go8, (x5_1 : Int).toNat * 4 + 3, none⟩ = some (.string ((rd_T71 x0_1 x5_1).f3)) := hcc8 3 _ rfl
    have hf8_0 : w6.frozen? ⟨go8, (x5_1 : Int).toNat * 4, none⟩ = false := hfr8 0
    have hf8_1 : w6.frozen? ⟨go8, (x5_1 : Int).toNat * 4 + 1, none⟩ = false := hfr8 1
    have hf8_2 : w6.frozen? ⟨go8, (x5_1 : Int).toNat * 4 + 2, none⟩ = false := hfr8 2
    have hf8_3 : w6.frozen? ⟨go8, (x5_1 : Int).toNat * 4 + 3, none⟩ = false := hfr8 3
    clear hcl8 hcc8 hfr8 hM8
    replace p8 := eq_true p8
    replace q8 := eq_true q8
    have HX15 := Aside0.mk (show Kd.R k71 71 w6 w0.heap.size (fun k_ => (P0_ k_ ∨ w.heap.size ≤ k_)) (.slice (some ⟨go8, 0, none⟩) x0_1.length co5) x0_1 from (by (with_reducible repeat (first|apply rA|apply rN|apply rD)); exact HO_0.out))
    obtain ⟨ce15, hcl15, hM15, hcc15, hfr15⟩ := Kd.R_elem HX15.out z71 (x5_1 : Int) (odt) (by have h_ : (x5_1 : Int) < ((x0_1.length : Int) : Int) := odt; first | exact h_ | (have e_ := (Kd.R_reads' HO_0.out).1; omega) | simpa using h_)
    obtain rfl := k71_openM hM15
    have HP15 := Kd.R_seg HX15.out (x5_1 : Int) (odt) (by have h_ : (x5_1 : Int) < ((x0_1.length : Int) : Int) := odt; first | exact h_ | (have e_ := (Kd.R_reads' HO_0.out).1; omega) | simpa using h_) (seg := [.string t453]) (j := 0) hcl15 hcc15 (show 1 ≤ 4 from by decide) (x' := (⟨t453, (rd_T71 x0_1 x5_1).f1, (rd_T71 x0_1 x5_1).f2, (rd_T71 x0_1 x5_1).f3⟩ : S71)) (k71_mkM _ _ _ (⟨t453, (rd_T71 x0_1 x5_1).f1, (rd_T71 x0_1 x5_1).f2, (rd_T71 x0_1 x5_1).f3⟩ : S71) ) (fun _ hk => hk)
    have hx15_0 := hcc15 0 _ rfl
    (try simp only [show (k71).sz = 4 from rfl, Nat.mul_one, Nat.add_zero] at hx15_0)
    have hf15_0 := hfr15 0
    (try simp only [show (k71).sz = 4 from rfl, Nat.mul_one, Nat.add_zero] at hf15_0)
    clear hcl15 hcc15 hfr15 hM15
    go_wp2_with (first | ((with_reducible refine gate_store (t := 9) (p := 17) rfl ?_); refine store_event (t := 9) (p := 17) (v := ?vo_w16) (w1 := (w6.setCell ⟨go8, (x5_1 : Int).toNat * 4, none⟩ (.string t453))) ?hg ?ho ?hn ?hr ?_; (case ho => rfl); (case hg => rfl); (case hn => rfl); (case hr => first | (go_simp; done) | (go_simp; rfl)); intro w16 hw; have hg : w6.grownBy w16 (some go8) := (by rw [hw]; exact HP15.2); have hp_ : Kd.R k71 71 w16 w0.heap.size (fun k_ => (P0_ k_ ∨ w.heap.size ≤ k_)) (.slice (some ⟨go8, 0, none⟩) x0_1.length co5) y454 := (by rw [hw, Ny454.out]; exact HP15.1); clear HP15; replace HB := Aside0.mk ((by rw [hw]; exact below_set (HB.out) GB8.out : Below w0.heap.size w0 w16)); replace HK := Aside0.mk (Kept.of_grown (S := (fun k_ => P0_ k_)) hg (by repeat (first|(with_reducible first|exact HK.out | apply Kept.alloc | apply Kept.drewN | apply Kept.drew) | exact HK.out)) (fun k_ e_ => (HO_0.out.1 k_ e_))); replace HO_0 := Aside0.mk (hp_); clear hg hw hp_) | ((with_reducible refine gate_callee (f := 36) rfl ?_); refine goesL_ (some 23) rfl rfl Try.func36 (by kernel_rfl) rfl #[.int .i64 (wrap64 (x1_1 + 1))] rfl mA ?_; (with_reducible refine (laws_markText.calls k1 (wrap64 (x1_1 + 1)) t455 _ A9.out).mono ?_); rintro e w17 ⟨rfl, hb⟩; refine ⟨_, rfl, ?_⟩; replace HO_0 := Aside0.mk (Kd.R_below (by (with_reducible repeat (first|apply rA|apply rN|apply rD)); exact HO_0.out) hb); replace HK := Aside0.mk (Kept.below (S := (fun k_ => P0_ k_)) (by repeat (first|(with_reducible first|exact HK.out | apply Kept.alloc | apply Kept.drewN | apply Kept.drew) | exact HK.out)) hb); replace HB := Aside0.mk (below_step hB hb); (try clear hb); (try clear hb2); (try clear hk); (try clear hi); have p10 : 0 ≤ (x5_1 : Int) := odt; have q10 : (x5_1 : Int) < ((x0_1.length : Int) : Int) := odt; obtain ⟨ce10, hcl10, hM10, hcc10, hfr10⟩ := Kd.R_elem HO_0.out z71 (x5_1 : Int) p10 q10; obtain rfl := k71_openM hM10; have hx10_0 : w17.cell? ⟨go8, (x5_1 : Int).toNat * 4, none⟩ = some (.string ((rd_T71 y454 x5_1).f0)) := hcc10 0 _ rfl; have hx10_1 : w17.cell? ⟨go8, (x5_1 : Int).toNat * 4 + 1, none⟩ = some (.string ((rd_T71 y454 x5_1).f1)) := hcc10 1 _ rfl; have hx10_2 : w17.cell? ⟨go8, (x5_1 : Int).toNat * 4 + 2, none⟩ = some (.string ((rd_T71 y454 x5_1).f2)) := hcc10 2 _ rfl; have hx10_3 : w17.cell? ⟨go8, (x5_1 : Int).toNat * 4 + 3, none⟩ = some (.string ((rd_T71 y454 x5_1).f3)) := hcc10 3 _ rfl; have hf10_0 : w17.frozen? ⟨go8, (x5_1 : Int).toNat * 4, none⟩ = false := hfr10 0; have hf10_1 : w17.frozen? ⟨go8, (x5_1 : Int).toNat * 4 + 1, none⟩ = false := hfr10 1; have hf10_2 : w17.frozen? ⟨go8, (x5_1 : Int).toNat * 4 + 2, none⟩ = false := hfr10 2; have hf10_3 : w17.frozen? ⟨go8, (x5_1 : Int).toNat * 4 + 3, none⟩ = false := hfr10 3; clear hcl10 hcc10 hfr10 hM10; replace p10 := eq_true p10; replace q10 := eq_true q10; have HX18 := Aside0.mk (show Kd.R k71 71 w17 w0.heap.size (fun k_ => (P0_ k_ ∨ w.heap.size ≤ k_)) (.slice (some ⟨go8, 0, none⟩) x0_1.length co5) y454 from (by (with_reducible repeat (first|apply rA|apply rN|apply rD)); exact HO_0.out)); obtain ⟨ce18, hcl18, hM18, hcc18, hfr18⟩ := Kd.R_elem HX18.out z71 (x5_1 : Int) (odt) (by have h_ : (x5_1 : Int) < ((x0_1.length : Int) : Int) := odt; first | exact h_ | (have e_ := (Kd.R_reads' HO_0.out).1; omega) | simpa using h_); obtain rfl := k71_openM hM18; have HP18 := Kd.R_seg HX18.out (x5_1 : Int) (odt) (by have h_ : (x5_1 : Int) < ((x0_1.length : Int) : Int) := odt; first | exact h_ | (have e_ := (Kd.R_reads' HO_0.out).1; omega) | simpa using h_) (seg := [.string t455]) (j := 1) hcl18 hcc18 (show 2 ≤ 4 from by decide) (x' := (⟨(rd_T71 y454 x5_1).f0, t455, (rd_T71 y454 x5_1).f2, (rd_T71 y454 x5_1).f3⟩ : S71)) (k71_mkM _ _ _ (⟨(rd_T71 y454 x5_1).f0, t455, (rd_T71 y454 x5_1).f2, (rd_T71 y454 x5_1).f3⟩ : S71) ) (fun _ hk => hk); have hx18_1 := hcc18 1 _ rfl; (try simp only [show (k71).sz = 4 from rfl, Nat.mul_one, Nat.add_zero] at hx18_1); have hf18_1 := hfr18 1; (try simp only [show (k71).sz = 4 from rfl, Nat.mul_one, Nat.add_zero] at hf18_1); clear hcl18 hcc18 hfr18 hM18) | ((with_reducible refine gate_store (t := 9) (p := 25) rfl ?_); refine store_event (t := 9) (p := 25) (v := ?vo_w19) (w1 := (w17.setCell ⟨go8, (x5_1 : Int).toNat * 4 + 1, none⟩ (.string t455))) ?hg ?ho ?hn ?hr ?_; (case ho => rfl); (case hg => rfl); (case hn => rfl); (case hr => first | (go_simp; done) | (go_simp; rfl)); intro w19 hw; have hg : w17.grownBy w19 (some go8) := (by rw [hw]; exact HP18.2); have hp_ : Kd.R k71 71 w19 w0.heap.size (fun k_ => (P0_ k_ ∨ w.heap.size ≤ k_)) (.slice (some ⟨go8, 0, none⟩) x0_1.length co5) y456 := (by rw [hw, Ny456.out]; exact HP18.1); clear HP18; replace HB := Aside0.mk ((by rw [hw]; exact below_set (HB.out) GB8.out : Below w0.heap.size w0 w19)); replace HK := Aside0.mk (Kept.of_grown (S := (fun k_ => P0_ k_)) hg (by repeat (first|(with_reducible first|exact HK.out | apply Kept.alloc | apply Kept.drewN | apply Kept.drew) | exact HK.out)) (fun k_ e_ => (HO_0.out.1 k_ e_))); replace HO_0 := Aside0.mk (hp_); clear hg hw hp_) | ((with_reducible refine gate_callee (f := 36) rfl ?_); refine goesL_ (some 31) rfl rfl Try.func36 (by kernel_rfl) rfl #[.int .i64 (wrap64 ((wrap64 (x1_1 + 1)) + 1))] rfl mA ?_; (with_reducible refine (laws_markText.calls k1 (wrap64 ((wrap64 (x1_1 + 1)) + 1)) t457 _ A11.out).mono ?_); rintro e w20 ⟨rfl, hb⟩; refine ⟨_, rfl, ?_⟩; replace HO_0 := Aside0.mk (Kd.R_below (by (with_reducible repeat (first|apply rA|apply rN|apply rD)); exact HO_0.out) hb); replace HK := Aside0.mk (Kept.below (S := (fun k_ => P0_ k_)) (by repeat (first|(with_reducible first|exact HK.out | apply Kept.alloc | apply Kept.drewN | apply Kept.drew) | exact HK.out)) hb); replace HB := Aside0.mk (below_step hB hb); (try clear hb); (try clear hb2); (try clear hk); (try clear hi); have p12 : 0 ≤ (x5_1 : Int) := odt; have q12 : (x5_1 : Int) < ((x0_1.length : Int) : Int) := odt; obtain ⟨ce12, hcl12, hM12, hcc12, hfr12⟩ := Kd.R_elem HO_0.out z71 (x5_1 : Int) p12 q12; obtain rfl := k71_openM hM12; have hx12_0 : w20.cell? ⟨go8, (x5_1 : Int).toNat * 4, none⟩ = some (.string ((rd_T71 y456 x5_1).f0)) := hcc12 0 _ rfl; have hx12_1 : w20.cell? ⟨go8, (x5_1 : Int).toNat * 4 + 1, none⟩ = some (.string ((rd_T71 y456 x5_1).f1)) := hcc12 1 _ rfl; have hx12_2 : w20.cell? ⟨go8, (x5_1 : Int).toNat * 4 + 2, none⟩ = some (.string ((rd_T71 y456 x5_1).f2)) := hcc12 2 _ rfl; have hx12_3 : w20.cell? ⟨go8, (x5_1 : Int).toNat * 4 + 3, none⟩ = some (.string ((rd_T71 y456 x5_1).f3)) := hcc12 3 _ rfl; have hf12_0 : w20.frozen? ⟨go8, (x5_1 : Int).toNat * 4, none⟩ = false := hfr12 0; have hf12_1 : w20.frozen? ⟨go8, (x5_1 : Int).toNat * 4 + 1, none⟩ = false := hfr12 1; have hf12_2 : w20.frozen? ⟨go8, (x5_1 : Int).toNat * 4 + 2, none⟩ = false := hfr12 2; have hf12_3 : w20.frozen? ⟨go8, (x5_1 : Int).toNat * 4 + 3, none⟩ = false := hfr12 3; clear hcl12 hcc12 hfr12 hM12; replace p12 := eq_true p12; replace q12 := eq_true q12; have HX21 := Aside0.mk (show Kd.R k71 71 w20 w0.heap.size (fun k_ => (P0_ k_ ∨ w.heap.size ≤ k_)) (.slice (some ⟨go8, 0, none⟩) x0_1.length co5) y456 from (by (with_reducible repeat (first|apply rA|apply rN|apply rD)); exact HO_0.out)); obtain ⟨ce21, hcl21, hM21, hcc21, hfr21⟩ := Kd.R_elem HX21.out z71 (x5_1 : Int) (odt) (by have h_ : (x5_1 : Int) < ((x0_1.length : Int) : Int) := odt; first | exact h_ | (have e_ := (Kd.R_reads' HO_0.out).1; omega) | simpa using h_); obtain rfl := k71_openM hM21; have HP21 := Kd.R_seg HX21.out (x5_1 : Int) (odt) (by have h_ : (x5_1 : Int) < ((x0_1.length : Int) : Int) := odt; first | exact h_ | (have e_ := (Kd.R_reads' HO_0.out).1; omega) | simpa using h_) (seg := [.string t457]) (j := 2) hcl21 hcc21 (show 3 ≤ 4 from by decide) (x' := (⟨(rd_T71 y456 x5_1).f0, (rd_T71 y456 x5_1).f1, t457, (rd_T71 y456 x5_1).f3⟩ : S71)) (k71_mkM _ _ _ (⟨(rd_T71 y456 x5_1).f0, (rd_T71 y456 x5_1).f1, t457, (rd_T71 y456 x5_1).f3⟩ : S71) ) (fun _ hk => hk); have hx21_2 := hcc21 2 _ rfl; (try simp only [show (k71).sz = 4 from rfl, Nat.mul_one, Nat.add_zero] at hx21_2); have hf21_2 := hfr21 2; (try simp only [show (k71).sz = 4 from rfl, Nat.mul_one, Nat.add_zero] at hf21_2); clear hcl21 hcc21 hfr21 hM21) | ((with_reducible refine gate_store (t := 9) (p := 33) rfl ?_); refine store_event (t := 9) (p := 33) (v := ?vo_w22) (w1 := (w20.setCell ⟨go8, (x5_1 : Int).toNat * 4 + 2, none⟩ (.string t457))) ?hg ?ho ?hn ?hr ?_; (case ho => rfl); (case hg => rfl); (case hn => rfl); (case hr => first | (go_simp; done) | (go_simp; rfl)); intro w22 hw; have hg : w20.grownBy w22 (some go8) := (by rw [hw]; exact HP21.2); have hp_ : Kd.R k71 71 w22 w0.heap.size (fun k_ => (P0_ k_ ∨ w.heap.size ≤ k_)) (.slice (some ⟨go8, 0, none⟩) x0_1.length co5) y458 := (by rw [hw, Ny458.out]; exact HP21.1); clear HP21; replace HB := Aside0.mk ((by rw [hw]; exact below_set (HB.out) GB8.out : Below w0.heap.size w0 w22)); replace HK := Aside0.mk (Kept.of_grown (S := (fun k_ => P0_ k_)) hg (by repeat (first|(with_reducible first|exact HK.out | apply Kept.alloc | apply Kept.drewN | apply Kept.drew) | exact HK.out)) (fun k_ e_ => (HO_0.out.1 k_ e_))); replace HO_0 := Aside0.mk (hp_); clear hg hw hp_) | ((with_reducible refine gate_callee (f := 36) rfl ?_); refine goesL_ (some 39) rfl rfl Try.func36 (by kernel_rfl) rfl #[.int .i64 (wrap64 ((wrap64 ((wrap64 (x1_1 + 1)) + 1)) + 1))] rfl mA ?_; (with_reducible refine (laws_markText.calls k1 (wrap64 ((wrap64 ((wrap64 (x1_1 + 1)) + 1)) + 1)) t459 _ A13.out).mono ?_); rintro e w23 ⟨rfl, hb⟩; refine ⟨_, rfl, ?_⟩; replace HO_0 := Aside0.mk (Kd.R_below (by (with_reducible repeat (first|apply rA|apply rN|apply rD)); exact HO_0.out) hb); replace HK := Aside0.mk (Kept.below (S := (fun k_ => P0_ k_)) (by repeat (first|(with_reducible first|exact HK.out | apply Kept.alloc | apply Kept.drewN | apply Kept.drew) | exact HK.out)) hb); replace HB := Aside0.mk (below_step hB hb); (try clear hb); (try clear hb2); (try clear hk); (try clear hi); have p14 : 0 ≤ (x5_1 : Int) := odt; have q14 : (x5_1 : Int) < ((x0_1.length : Int) : Int) := odt; obtain ⟨ce14, hcl14, hM14, hcc14, hfr14⟩ := Kd.R_elem HO_0.out z71 (x5_1 : Int) p14 q14; obtain rfl := k71_openM hM14; have hx14_0 : w23.cell? ⟨go8, (x5_1 : Int).toNat * 4, none⟩ = some (.string ((rd_T71 y458 x5_1).f0)) := hcc14 0 _ rfl; have hx14_1 : w23.cell? ⟨go8, (x5_1 : Int).toNat * 4 + 1, none⟩ = some (.string ((rd_T71 y458 x5_1).f1)) := hcc14 1 _ rfl; have hx14_2 : w23.cell? ⟨go8, (x5_1 : Int).toNat * 4 + 2, none⟩ = some (.string ((rd_T71 y458 x5_1).f2)) := hcc14 2 _ rfl; have hx14_3 : w23.cell? ⟨go8, (x5_1 : Int).toNat * 4 + 3, none⟩ = some (.string ((rd_T71 y458 x5_1).f3)) := hcc14 3 _ rfl; have hf14_0 : w23.frozen? ⟨go8, (x5_1 : Int).toNat * 4, none⟩ = false := hfr14 0; have hf14_1 : w23.frozen? ⟨go8, (x5_1 : Int).toNat * 4 + 1, none⟩ = false := hfr14 1; have hf14_2 : w23.frozen? ⟨go8, (x5_1 : Int).toNat * 4 + 2, none⟩ = false := hfr14 2; have hf14_3 : w23.frozen? ⟨go8, (x5_1 : Int).toNat * 4 + 3, none⟩ = false := hfr14 3; clear hcl14 hcc14 hfr14 hM14; replace p14 := eq_true p14; replace q14 := eq_true q14; have HX24 := Aside0.mk (show Kd.R k71 71 w23 w0.heap.size (fun k_ => (P0_ k_ ∨ w.heap.size ≤ k_)) (.slice (some ⟨go8, 0, none⟩) x0_1.length co5) y458 from (by (with_reducible repeat (first|apply rA|apply rN|apply rD)); exact HO_0.out)); obtain ⟨ce24, hcl24, hM24, hcc24, hfr24⟩ := Kd.R_elem HX24.out z71 (x5_1 : Int) (odt) (by have h_ : (x5_1 : Int) < ((x0_1.length : Int) : Int) := odt; first | exact h_ | (have e_ := (Kd.R_reads' HO_0.out).1; omega) | simpa using h_); obtain rfl := k71_openM hM24; have HP24 := Kd.R_seg HX24.out (x5_1 : Int) (odt) (by have h_ : (x5_1 : Int) < ((x0_1.length : Int) : Int) := odt; first | exact h_ | (have e_ := (Kd.R_reads' HO_0.out).1; omega) | simpa using h_) (seg := [.string t459]) (j := 3) hcl24 hcc24 (show 4 ≤ 4 from by decide) (x' := (⟨(rd_T71 y458 x5_1).f0, (rd_T71 y458 x5_1).f1, (rd_T71 y458 x5_1).f2, t459⟩ : S71)) (k71_mkM _ _ _ (⟨(rd_T71 y458 x5_1).f0, (rd_T71 y458 x5_1).f1, (rd_T71 y458 x5_1).f2, t459⟩ : S71) ) (fun _ hk => hk); have hx24_3 := hcc24 3 _ rfl; (try simp only [show (k71).sz = 4 from rfl, Nat.mul_one, Nat.add_zero] at hx24_3); have hf24_3 := hfr24 3; (try simp only [show (k71).sz = 4 from rfl, Nat.mul_one, Nat.add_zero] at hf24_3); clear hcl24 hcc24 hfr24 hM24) | ((with_reducible refine gate_store (t := 9) (p := 41) rfl ?_); refine store_event (t := 9) (p := 41) (v := ?vo_w25) (w1 := (w23.setCell ⟨go8, (x5_1 : Int).toNat * 4 + 3, none⟩ (.string t459))) ?hg ?ho ?hn ?hr ?_; (case ho => rfl); (case hg => rfl); (case hn => rfl); (case hr => first | (go_simp; done) | (go_simp; rfl)); intro w25 hw; have hg : w23.grownBy w25 (some go8) := (by rw [hw]; exact HP24.2); have hp_ : Kd.R k71 71 w25 w0.heap.size (fun k_ => (P0_ k_ ∨ w.heap.size ≤ k_)) (.slice (some ⟨go8, 0, none⟩) x0_1.length co5) y460 := (by rw [hw, Ny460.out]; exact HP24.1); clear HP24; replace HB := Aside0.mk ((by rw [hw]; exact below_set (HB.out) GB8.out : Below w0.heap.size w0 w25)); replace HK := Aside0.mk (Kept.of_grown (S := (fun k_ => P0_ k_)) hg (by repeat (first|(with_reducible first|exact HK.out | apply Kept.alloc | apply Kept.drewN | apply Kept.drew) | exact HK.out)) (fun k_ e_ => (HO_0.out.1 k_ e_))); replace HO_0 := Aside0.mk (hp_); clear hg hw hp_))
    go_roundg k1
    case measure => have := HK1.out; omega
    case rel => exact ⟨(y460), (wrap64 ((wrap64 ((wrap64 ((wrap64 (x1_1 + 1)) + 1)) + 1)) + 1)), (wrap64 (x5_1 + 1)), rG, rG, H', ⟨by have := HK1.out; omega⟩, ⟨by (with_reducible repeat (first|apply rA|apply rN|apply rD)); exact HO_0.out⟩, ⟨by repeat (first|(with_reducible first|exact HK.out | apply Kept.alloc | apply Kept.drewN | apply Kept.drew) | exact HK.out)⟩, ⟨hB⟩⟩
   ·rw [if_neg c3] at H
    have c3b0 : decide (x5_1 < (x0_1.length : Int)) = false := decide_eq_false c3
    clear c3
    simp only [Option.some.injEq, Prod.mk.injEq] at H
    obtain ⟨rfl, rfl⟩ := H
    obtain ⟨Ao26, co26, eo26⟩ := Kd.R_slice HO_0.out
    subst eo26
    go_wp2
    go_ret
    exact ⟨rE, by (with_reducible repeat (first|apply rA|apply rN|apply rD)); exact HO_0.out, hB, by repeat (first|(with_reducible first|exact HK.out | apply Kept.alloc | apply Kept.drewN | apply Kept.drew) | exact HK.out)⟩

/-! ### laws_markNodeS: function 16 -/
def laws_markNodeS.node (G : List S34 → Int → Option (Int × List S34)) (k : Nat) (x : S34) (a : Int) : Option (Int × S34) :=
  (laws_markText.f k (wrap64 (a + 1))).bind fun t1 => (laws_markText.f k (wrap64 ((wrap64 (a + 1)) + 1))).bind fun t2 => (laws_markText.f k (wrap64 ((wrap64 ((wrap64 (a + 1)) + 1)) + 1))).bind fun t3 => (laws_markDeclS.f k x.f4 (wrap64 ((wrap64 ((wrap64 ((wrap64 (a + 1)) + 1)) + 1)) + 1))).bind fun d => (laws_markAttrS.f k x.f5 d.1).bind fun t => (G x.f6 t.1).bind fun c => (laws_markText.f k c.1).bind fun t7 => some (wrap64 (c.1 + 1), ⟨a, t1, t2, t3, d.2, t.2, c.2, t7⟩)
def laws_markNodeS.go (G : List S34 → Int → Option (Int × List S34)) (k : Nat) : List S34 → Int → Option (Int × List S34)
  | [], a => some (a, [])
  | x :: xs, a => (laws_markNodeS.node G k x a).bind fun p => (laws_markNodeS.go G k xs p.1).bind fun q => some (q.1, p.2 :: q.2)
def laws_markNodeS.f : Nat → List S34 → Int → Option (Int × List S34)
  | 0, _, _ => none
  | k + 1, xs, a => if xs.length < 4611686018427387904 then laws_markNodeS.go (laws_markNodeS.f k) k xs a else none
set_option maxRecDepth 100000 in
set_option maxHeartbeats 4000000 in
theorem laws_markNodeS.calls (k : Nat) : ∀ (P : Nat → Prop) (u : Value) (l0 : List S34) (a1 r1 : Int) (r2 : List S34) (w0 w : World) (hB : Below w0.heap.size w0 w) (ho : Kd.S kD 34 w w0.heap.size P u l0) (h : laws_markNodeS.f k l0 a1 = some (r1, r2)),
    Calls Try.prog 16 #[u, .int .i64 a1] w fun e w' => e = .returned (.int .i64 r1) ∧ Kd.S kD 34 w' w0.heap.size P u r2 ∧ Below w0.heap.size w0 w' ∧ Kept w w' P := by
  induction k with
  | zero => intro P u l0 a1 r1 r2 w0 w hB ho h; exact absurd h (by simp [laws_markNodeS.f])
  | succ k ih =>
  intro P u l0 a1 r1 r2 w0 w hB ho h
  simp only [laws_markNodeS.f] at h
  obtain ⟨hz, h⟩ := if_som h
  have IH := Aside0.mk ih
  obtain ⟨A, c, rfl, -, -⟩ := Kd.S_reads ho
  have HS := Aside0.mk ho
  have HB := Aside0.mk hB
  have HH := Aside0.mk h
  clear ih hB ho h
  go_enter Try.func16, Try.ntmps16
  go_wp2
  go_loopg [1, 5] l0.length (fun gg s1 s5 wr => ∃ (ys zs : List S34) (a : Int) (q : List S34), ys.length + zs.length = l0.length ∧ zs.length ≤ gg ∧ s1 = .int .i64 a ∧ s5 = .int .i64 (ys.length : Int) ∧ Aside0 (laws_markNodeS.go (laws_markNodeS.f k) k zs a = some (r1, q)) ∧ Aside0 (r2 = ys ++ q) ∧ Aside0 (Kd.S kD 34 wr w0.heap.size P (.slice A l0.length c) (ys ++ zs)) ∧ Aside0 (Below w0.heap.size w0 wr) ∧ Aside0 (Kept w wr P))
  case atStart => exact ⟨[], l0, a1, r2, by simp, Nat.le_refl _, rfl, rfl, HH, ⟨rfl⟩, ⟨HS.out⟩, ⟨HB.out⟩, ⟨Kept.refl _ _⟩⟩
  case round =>
    clear HH HS HB
    obtain ⟨ys, zs, a, q, hlen, hg, rfl, rfl, HH, HQ, HS, HB, HK⟩ := hrel
    cases zs with
    | nil =>
      have hlt : ¬ (ys.length : Int) < (l0.length : Int) := by simp at hlen; omega
      obtain ⟨rfl, rfl⟩ : a = r1 ∧ q = [] := by have := HH.out; simp only [laws_markNodeS.go, Option.some.injEq, Prod.mk.injEq] at this; exact ⟨this.1, this.2.symm⟩
      rw [List.append_nil] at HS HQ
      obtain rfl := HQ.out
      go_wp2
      go_ret
      exact ⟨rfl, HS.out, HB.out, HK.out⟩
    | cons x zs =>
      rw [List.length_cons] at hlen hg
      have hlt : (ys.length : Int) < (l0.length : Int) := by omega
      have hl0 : (0 : Int) ≤ (ys.length : Int) := by omega
      have HL := Aside0.mk (show ys.length < l0.length by omega)
      obtain ⟨f0, f1, f2, f3, f4, f5, f6, f7⟩ := x
      obtain ⟨p, hp1, h2⟩ := Option.bind_eq_some_iff.1 (show (laws_markNodeS.node (laws_markNodeS.f k) k ⟨f0, f1, f2, f3, f4, f5, f6, f7⟩ a).bind _ = some (r1, q) from HH.out)
      obtain ⟨q', hq, h3⟩ := Option.bind_eq_some_iff.1 h2
      simp only [Option.some.injEq, Prod.mk.injEq] at h3
      obtain ⟨h31, rfl⟩ := h3
      obtain ⟨t1, ht1, hp2⟩ := Option.bind_eq_some_iff.1 hp1
      obtain ⟨t2, ht2, hp3⟩ := Option.bind_eq_some_iff.1 hp2
      obtain ⟨t3, ht3, hp4⟩ := Option.bind_eq_some_iff.1 hp3
      obtain ⟨⟨d1, d2⟩, hd, hp5⟩ := Option.bind_eq_some_iff.1 hp4
      obtain ⟨⟨e1, e2⟩, ht, hp6⟩ := Option.bind_eq_some_iff.1 hp5
      obtain ⟨⟨c1, c2⟩, hcc, hp7⟩ := Option.bind_eq_some_iff.1 hp6
      obtain ⟨t7, ht7, hp8⟩ := Option.bind_eq_some_iff.1 hp7
      clear hp1 hp2 hp3 hp4 hp5 hp6 hp7
      cases hp8
      have T1 := Aside0.mk ht1
      have T2 := Aside0.mk ht2
      have T3 := Aside0.mk ht3
      have T7 := Aside0.mk ht7
      have TD := Aside0.mk hd
      have TT := Aside0.mk ht
      have TC := Aside0.mk hcc
      have HR := Aside0.mk (show laws_markNodeS.go (laws_markNodeS.f k) k zs (wrap64 (c1 + 1)) = some (r1, q'.2) by rw [← h31]; exact hq)
      clear HH h2 hq h31 ht1 ht2 ht3 ht7 hd ht hcc
      obtain ⟨g, cap, eg, hg0, -, -⟩ := Kd.S_form HS.out (by simp; omega)
      injection eg with eA eN eC
      subst eA
      have HG := Aside0.mk hg0
      have HP0 := Aside0.mk ((Kd.S_R HS.out).1 g rfl)
      have HLEN := Aside0.mk (And.intro hlen hg)
      clear hg0 eC eN hlen hg
      obtain ⟨oki, v4, v5, v6, o6, hc, hf, hD, hk, hH⟩ := kD_elem HS.out
      have hx := hc 0 _ rfl
      have hy := hf 0
      have HP := Aside0.mk (kD_put hH hD hk HL.out 0 (.int .i64 a) rfl (by decide) ⟨a, f1, f2, f3, f4, f5, f6, f7⟩ rfl rfl rfl rfl)
      rw [Nat.add_zero] at hx hy HP
      clear hc hf hD hk hH
      go_wp2_with (first
        | ((with_reducible refine gate_store (t := 3) (p := 16) rfl ?_); refine store_event (t := 3) (p := 16) (v := ?vo_wr) (w1 := (wr.setCell ⟨g, ys.length * 8, none⟩ (.int .i64 a))) ?hg ?ho ?hn ?hr ?_; (case ho => rfl); (case hg => rfl); (case hn => rfl); (case hr => first | (go_simp; done) | (go_simp; rfl)); intro wrx hw; replace HS := Aside0.mk (show Kd.S kD 34 wrx _ _ _ _ by rw [hw]; exact HP.out.1); replace HB := Aside0.mk (show Below w0.heap.size w0 wrx by rw [hw]; exact below_set HB.out HG.out); replace HK := Aside0.mk (Kept.of_grown (show wr.grownBy wrx (some g) by rw [hw]; exact HP.out.2) HK.out (fun k_ e_ => .inl (by injection e_ with e_; exact e_ ▸ HP0.out))); clear HP hx hy hw)
        | (go_at_call 36; (with_reducible refine (laws_markText.calls k (wrap64 (a + 1)) t1 _ T1.out).mono ?_); rintro e wb ⟨rfl, hb⟩; replace HS := Aside0.mk (Kd.S_below HS.out hb); replace HK := Aside0.mk (Kept.below HK.out hb); replace HB := Aside0.mk (below_step HB.out hb); clear hb; obtain ⟨oki, v4, v5, v6, o6, hc, hf, hD, hk, hH⟩ := kD_elem HS.out; have hx := hc 1 _ rfl; have hy := hf 1; have HP := Aside0.mk (kD_put hH hD hk HL.out 1 (.string t1) rfl (by decide) ⟨a, t1, f2, f3, f4, f5, f6, f7⟩ rfl rfl rfl rfl); clear hc hf hD hk hH)
        | ((with_reducible refine gate_store (t := 9) (p := 24) rfl ?_); refine store_event (t := 9) (p := 24) (v := ?vo_wb) (w1 := (wb.setCell ⟨g, ys.length * 8 + 1, none⟩ (.string t1))) ?hg ?ho ?hn ?hr ?_; (case ho => rfl); (case hg => rfl); (case hn => rfl); (case hr => first | (go_simp; done) | (go_simp; rfl)); intro wbx hw; replace HS := Aside0.mk (show Kd.S kD 34 wbx _ _ _ _ by rw [hw]; exact HP.out.1); replace HB := Aside0.mk (show Below w0.heap.size w0 wbx by rw [hw]; exact below_set HB.out HG.out); replace HK := Aside0.mk (Kept.of_grown (show wb.grownBy wbx (some g) by rw [hw]; exact HP.out.2) HK.out (fun k_ e_ => .inl (by injection e_ with e_; exact e_ ▸ HP0.out))); clear HP hx hy hw)
        | (go_at_call 36; (with_reducible refine (laws_markText.calls k (wrap64 ((wrap64 (a + 1)) + 1)) t2 _ T2.out).mono ?_); rintro e wc ⟨rfl, hb⟩; replace HS := Aside0.mk (Kd.S_below HS.out hb); replace HK := Aside0.mk (Kept.below HK.out hb); replace HB := Aside0.mk (below_step HB.out hb); clear hb; obtain ⟨oki, v4, v5, v6, o6, hc, hf, hD, hk, hH⟩ := kD_elem HS.out; have hx := hc 2 _ rfl; have hy := hf 2; have HP := Aside0.mk (kD_put hH hD hk HL.out 2 (.string t2) rfl (by decide) ⟨a, t1, t2, f3, f4, f5, f6, f7⟩ rfl rfl rfl rfl); clear hc hf hD hk hH)
        | ((with_reducible refine gate_store (t := 9) (p := 32) rfl ?_); refine store_event (t := 9) (p := 32) (v := ?vo_wc) (w1 := (wc.setCell ⟨g, ys.length * 8 + 2, none⟩ (.string t2))) ?hg ?ho ?hn ?hr ?_; (case ho => rfl); (case hg => rfl); (case hn => rfl); (case hr => first | (go_simp; done) | (go_simp; rfl)); intro wcx hw; replace HS := Aside0.mk (show Kd.S kD 34 wcx _ _ _ _ by rw [hw]; exact HP.out.1); replace HB := Aside0.mk (show Below w0.heap.size w0 wcx by rw [hw]; exact below_set HB.out HG.out); replace HK := Aside0.mk (Kept.of_grown (show wc.grownBy wcx (some g) by rw [hw]; exact HP.out.2) HK.out (fun k_ e_ => .inl (by injection e_ with e_; exact e_ ▸ HP0.out))); clear HP hx hy hw)
        | (go_at_call 36; (with_reducible refine (laws_markText.calls k (wrap64 ((wrap64 ((wrap64 (a + 1)) + 1)) + 1)) t3 _ T3.out).mono ?_); rintro e wd ⟨rfl, hb⟩; replace HS := Aside0.mk (Kd.S_below HS.out hb); replace HK := Aside0.mk (Kept.below HK.out hb); replace HB := Aside0.mk (below_step HB.out hb); clear hb; obtain ⟨oki, v4, v5, v6, o6, hc, hf, hD, hk, hH⟩ := kD_elem HS.out; have hx := hc 3 _ rfl; have hy := hf 3; have HP := Aside0.mk (kD_put hH hD hk HL.out 3 (.string t3) rfl (by decide) ⟨a, t1, t2, t3, f4, f5, f6, f7⟩ rfl rfl rfl rfl); clear hc hf hD hk hH)
        | ((with_reducible refine gate_store (t := 9) (p := 40) rfl ?_); refine store_event (t := 9) (p := 40) (v := ?vo_wd) (w1 := (wd.setCell ⟨g, ys.length * 8 + 3, none⟩ (.string t3))) ?hg ?ho ?hn ?hr ?_; (case ho => rfl); (case hg => rfl); (case hn => rfl); (case hr => first | (go_simp; done) | (go_simp; rfl)); intro wdx hw; replace HS := Aside0.mk (show Kd.S kD 34 wdx _ _ _ _ by rw [hw]; exact HP.out.1); replace HB := Aside0.mk (show Below w0.heap.size w0 wdx by rw [hw]; exact below_set HB.out HG.out); replace HK := Aside0.mk (Kept.of_grown (show wd.grownBy wdx (some g) by rw [hw]; exact HP.out.2) HK.out (fun k_ e_ => .inl (by injection e_ with e_; exact e_ ▸ HP0.out))); clear HP hx hy hw; obtain ⟨oki, v4, v5, v6, o6, hc, -, hD, hk, hH⟩ := kD_elem HS.out; have hx := hc 4 _ rfl; have HE := Aside0.mk (And.intro hH (And.intro hD hk)); clear hc hD hk hH)
        | (go_at_call 34; (with_reducible refine (laws_markDeclS.calls k (fun k_ => some k_ = v4.ownBlock) v4 f4 (wrap64 ((wrap64 ((wrap64 ((wrap64 (a + 1)) + 1)) + 1)) + 1)) d1 d2 w0 _ HB.out HE.out.2.1.1 TD.out).mono ?_); rintro e wf ⟨rfl, hR, hb, hkp⟩; replace HK := Aside0.mk (Kept.then_ HK.out hkp (fun k_ h_ => .inl (HE.out.2.2 k_ (HE.out.2.1.2.2.2.1 k_ h_)).1)); replace HS := Aside0.mk (kD_in4 HE.out.1 HE.out.2.1 hkp hR); replace HB := Aside0.mk hb; clear hx HE hkp hR hb; obtain ⟨oki, v4, v5, v6, o6, hc, -, hD, hk, hH⟩ := kD_elem HS.out; have hx := hc 5 _ rfl; have HE := Aside0.mk (And.intro hH (And.intro hD hk)); clear hc hD hk hH)
        | (go_at_call 35; (with_reducible refine (laws_markAttrS.calls k (fun k_ => some k_ = v5.ownBlock) v5 f5 d1 e1 e2 w0 _ HB.out HE.out.2.1.2.1 TT.out).mono ?_); rintro e wg ⟨rfl, hR, hb, hkp⟩; replace HK := Aside0.mk (Kept.then_ HK.out hkp (fun k_ h_ => .inl (HE.out.2.2 k_ (HE.out.2.1.2.2.2.2.1 k_ h_)).1)); replace HS := Aside0.mk (kD_in5 HE.out.1 HE.out.2.1 hkp hR); replace HB := Aside0.mk hb; clear hx HE hkp hR hb; obtain ⟨oki, v4, v5, v6, o6, hc, -, hD, hk, hH⟩ := kD_elem HS.out; have hx := hc 6 _ rfl; have HE := Aside0.mk (And.intro hH (And.intro hD hk)); clear hc hD hk hH)
        | (go_at_call 16; (with_reducible refine (IH.out o6 v6 f6 e1 c1 c2 w0 _ HB.out HE.out.2.1.2.2.1 TC.out).mono ?_); rintro e wh ⟨rfl, hR, hb, hkp⟩; replace HK := Aside0.mk (Kept.then_ HK.out hkp (fun k_ h_ => .inl (HE.out.2.2 k_ (HE.out.2.1.2.2.2.2.2 k_ h_).1).1)); replace HS := Aside0.mk (kD_in6 HE.out.1 HE.out.2.1 hkp hR); replace HB := Aside0.mk hb; clear hx HE hkp hR hb)
        | (go_at_call 36; (with_reducible refine (laws_markText.calls k (c1) t7 _ T7.out).mono ?_); rintro e wi ⟨rfl, hb⟩; replace HS := Aside0.mk (Kd.S_below HS.out hb); replace HK := Aside0.mk (Kept.below HK.out hb); replace HB := Aside0.mk (below_step HB.out hb); clear hb; obtain ⟨oki, v4, v5, v6, o6, hc, hf, hD, hk, hH⟩ := kD_elem HS.out; have hx := hc 7 _ rfl; have hy := hf 7; have HP := Aside0.mk (kD_put hH hD hk HL.out 7 (.string t7) rfl (by decide) ⟨a, t1, t2, t3, d2, e2, c2, t7⟩ rfl rfl rfl rfl); clear hc hf hD hk hH)
        | ((with_reducible refine gate_store (t := 9) (p := 69) rfl ?_); refine store_event (t := 9) (p := 69) (v := ?vo_wi) (w1 := (wi.setCell ⟨g, ys.length * 8 + 7, none⟩ (.string t7))) ?hg ?ho ?hn ?hr ?_; (case ho => rfl); (case hg => rfl); (case hn => rfl); (case hr => first | (go_simp; done) | (go_simp; rfl)); intro wix hw; replace HS := Aside0.mk (show Kd.S kD 34 wix _ _ _ _ by rw [hw]; exact HP.out.1); replace HB := Aside0.mk (show Below w0.heap.size w0 wix by rw [hw]; exact below_set HB.out HG.out); replace HK := Aside0.mk (Kept.of_grown (show wi.grownBy wix (some g) by rw [hw]; exact HP.out.2) HK.out (fun k_ e_ => .inl (by injection e_ with e_; exact e_ ▸ HP0.out))); clear HP hx hy hw))
      go_roundg zs.length
      case measure => have := HLEN.out; omega
      case rel => (have hl_ := HLEN.out); exact ⟨ys ++ [⟨a, t1, t2, t3, d2, e2, c2, t7⟩], zs, wrap64 (c1 + 1), q'.2, by simp; omega, Nat.le_refl _, rfl, by rw [List.length_append, List.length_singleton]; go_num, HR, ⟨by rw [HQ.out]; simp⟩, ⟨by rw [List.append_assoc]; exact HS.out⟩, ⟨HB.out⟩, ⟨HK.out⟩⟩

end Go.Proofs.Ytglmahgliihkaaa.PY
