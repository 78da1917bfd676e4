-- Written by the session's program hprint.py, over the kit's print program. Lean checks it.
import Derived.Test.YtdbinpeglamnnaaPMx0
import Derived.Test.YtdbinpeglamnnaaPMx3
import Derived.Test.YtdbinpeglamnnaaPMx4
import Derived.Test.YtdbinpeglamnnaaPMx5
import Derived.Test.YtdbinpeglamnnaaPMx7
import Derived.Test.YtdbinpeglamnnaaPMx8
namespace Go.Proofs.Ytdbinpeglamnnaa.PM
open Go.RowKit Go.Proofs.YtdbinpeglamnnaaW.PrintWords Go.Proofs.YtdbinpeglamnnaaW.PrintLast Go.Proofs.YtdbinpeglamnnaaW.PrintMore
attribute [local go_sem] max2_int min2_int max_two min_two max_three min_three max_four min_four   -- for this text's walks alone
set_option linter.unusedVariables false
set_option linter.unusedSimpArgs false
set_option maxHeartbeats 8000000
set_option maxRecDepth 100000

/-! ### laws_FnMerges: function 7 -/
mutual
def laws_FnMerges.l0 : Nat → List (S34) → List (S34) → ByteArray → ByteArray → Int → Option (Bool)
 | 0, _, _, _, _, _ => none
 | k + 1, x3, x4, x5, x6, x7 => if x7 < (x3.length : Int) then (if 0 ≤ x7 then (if ((rd_T34 x3 x7).f0) = 2 then (if x5.size + ((rd_T34 x3 x7).f7).size ≤ 9223372036854775807 then (laws_FnMerges.l0 k x3 x4 (x5 ++ ((rd_T34 x3 x7).f7)) x6 (wrap64 (x7 + 1))) else (none)) else (if x5.size + 1 ≤ 9223372036854775807 then (laws_FnMerges.l0 k x3 x4 (x5 ++ (⟨#[124]⟩ : ByteArray)) x6 (wrap64 (x7 + 1))) else (none))) else (none)) else (laws_FnMerges.l1 k x3 x4 x5 x6 0)
def laws_FnMerges.l1 : Nat → List (S34) → List (S34) → ByteArray → ByteArray → Int → Option (Bool)
 | 0, _, _, _, _, _ => none
 | k + 1, x3, x4, x5, x6, x8 => if x8 < (x4.length : Int) then (if 0 ≤ x8 then (if ((rd_T34 x4 x8).f0) = 2 then (if x6.size + ((rd_T34 x4 x8).f7).size ≤ 9223372036854775807 then (if ((rd_T34 x4 x8).f7).toList = ([] : List UInt8) then (some false) else (if x8 > 0 then (if 0 ≤ (wrap64 (x8 - 1)) then (if (wrap64 (x8 - 1)) < (x4.length : Int) then (if ((rd_T34 x4 (wrap64 (x8 - 1))).f0) = 2 then (some false) else (laws_FnMerges.l1 k x3 x4 x5 (x6 ++ ((rd_T34 x4 x8).f7)) (wrap64 (x8 + 1)))) else (none)) else (none)) else (laws_FnMerges.l1 k x3 x4 x5 (x6 ++ ((rd_T34 x4 x8).f7)) (wrap64 (x8 + 1))))) else (none)) else (if x6.size + 1 ≤ 9223372036854775807 then (laws_FnMerges.l1 k x3 x4 x5 (x6 ++ (⟨#[124]⟩ : ByteArray)) (wrap64 (x8 + 1))) else (none))) else (none)) else (if x5.toList = x6.toList then ((impl_Merge.f k x4).bind fun t393 => ((laws_sameList.f k t393 x4).bind fun t396 => (if t396 = true then ((spec_Merge.f k x3).bind fun t397 => ((laws_sameList.f k x4 t397).bind fun t400 => (some t400))) else (some false)))) else (some false))
end
def laws_FnMerges.f (k : Nat) (l0 : List Int) : Option (Bool) := (laws_big.f l0).bind fun t380 => (if t380 = true then (some true) else ((spec_DrawMerge.f k l0).bind fun t381 => ((impl_Merge.f k t381).bind fun t384 => (laws_FnMerges.l0 k t381 t384 (⟨#[]⟩ : ByteArray) (⟨#[]⟩ : ByteArray) 0))))
theorem laws_FnMerges.calls (k : Nat) (A0 : Option Addr) (c0 : Nat) (l0 : List Int) (r_ : Bool) (w : World) (hr0 : Kd.C (Kd.int .u8) w A0 l0.length l0) (hc0 : l0.length ≤ c0) (h : laws_FnMerges.f k l0 = some true) :
  Calls Try.prog 7 #[.slice A0 l0.length c0] w fun e w' => e = .returned (.bool true) ∧ Below w.heap.size w w' := by
 have HR0 := Aside0.mk hr0
 have HC0 := Aside0.mk hc0
 clear hr0 hc0
 have HB := Aside0.mk (Below.refl w.heap.size w)
 have H : ((laws_big.f l0).bind fun t380 => (if t380 = true then (some true) else ((spec_DrawMerge.f k l0).bind fun t381 => ((impl_Merge.f k t381).bind fun t384 => (laws_FnMerges.l0 k t381 t384 (⟨#[]⟩ : ByteArray) (⟨#[]⟩ : ByteArray) 0))))) = some true := h
 clear h
 replace H := Option.bind_eq_some_iff.mp H
 obtain ⟨t380, A20, H⟩ := H
 try dsimp only at H
 have A2 := Aside0.mk A20
 clear A20
 go_enter Try.func7, Try.ntmps7
 go_wp2_with (first | ((with_reducible refine gate_callee (f := 32) rfl ?_); refine goesL_ (some 10) rfl rfl Try.func32 (by kernel_rfl) rfl #[.slice A0 l0.length c0] rfl mA ?_; (with_reducible refine (laws_big.calls _ _ l0 t380 _ ?side1 ?side2 A2.out).mono ?_); (case side1 => repeat (first | exact HR0.out | (with_reducible refine Kd.C_alloc ?_ _) | (with_reducible refine Kd.C_drewN ?_ _) | (with_reducible refine Kd.C_drew ?_))); (case side2 => exact HC0.out); rintro e w' ⟨rfl, ⟨nd, rfl⟩⟩; refine ⟨_, rfl, ?_⟩; refine halt_ ?_; intro q_ hq_))
 obtain ⟨rfl⟩ := hq_
 by_cases c3 : t380 = true
 ·subst c3
  have H1 : (some true) = some true := rfl
  clear H
  have H := H1
  clear H1
  first | obtain rfl := Option.some.inj H | clear H
  go_wp2
  go_ret
  exact ⟨rE, hB⟩
 ·replace c3 := Bool.eq_false_iff.mpr c3
  subst c3
  rw [if_neg (show ¬ (false = true) by decide)] at H
  replace H := Option.bind_eq_some_iff.mp H
  obtain ⟨t381, A40, H⟩ := H
  try dsimp only at H
  have A4 := Aside0.mk A40
  clear A40
  replace H := Option.bind_eq_some_iff.mp H
  obtain ⟨t384, A50, H⟩ := H
  try dsimp only at H
  have A5 := Aside0.mk A50
  clear A50
  have H' := Aside0.mk H
  clear H
  go_wp2_with (first | ((with_reducible refine gate_callee (f := 33) rfl ?_); refine goesL_ (some 12) rfl rfl Try.func33 (by kernel_rfl) rfl #[.slice A0 l0.length c0] rfl mA ?_; (with_reducible refine (spec_DrawMerge.calls k _ _ l0 t381 _ ?side1 ?side2 A4.out).mono ?_); (case side1 => repeat (first | exact (Kd.C_below HR0.out HB.out) | (with_reducible refine Kd.C_alloc ?_ _) | (with_reducible refine Kd.C_drewN ?_ _) | (with_reducible refine Kd.C_drew ?_))); (case side2 => exact HC0.out); rintro e w6 ⟨v382, rfl, ho0, hb⟩; refine ⟨_, rfl, ?_⟩; have HO383 := Aside0.mk (Kd.R_lower ho0 (below_size hB)); replace HB := Aside0.mk (below_step hB hb); (try clear hb); (try clear hb2); (try clear hk); (try clear hi); (try clear ho0); obtain ⟨Ao7, co7, eo7⟩ := Kd.R_slice HO383.out; subst eo7) | ((with_reducible refine gate_callee (f := 20) rfl ?_); refine goesL_ (some 14) rfl rfl Try.func20 (by kernel_rfl) rfl #[.slice Ao7 t381.length co7] rfl mA ?_; (with_reducible refine (impl_Merge.calls k _ _ t381 t384 _ ?side1 ?side2 A5.out).mono ?_); (case side1 => repeat (first | exact (Kd.R_reads' HO383.out).2.2 | (with_reducible refine Kd.C_alloc ?_ _) | (with_reducible refine Kd.C_drewN ?_ _) | (with_reducible refine Kd.C_drew ?_))); (case side2 => exact (Kd.R_reads' HO383.out).2.1); rintro e w8 ⟨v385, rfl, ho0, hb⟩; refine ⟨_, rfl, ?_⟩; have HO386 := Aside0.mk (Kd.R_lower (Kd.R_new' ho0 (Kd.R_lt (by (with_reducible repeat (first|apply rA|apply rN|apply rD)); exact HO383.out))) (below_size hB)); replace HO383 := Aside0.mk (Kd.R_elder' (by (with_reducible repeat (first|apply rA|apply rN|apply rD)); exact HO383.out) (Kd.R_base ho0) hb); replace HB := Aside0.mk (below_step hB hb); (try clear hb); (try clear hb2); (try clear hk); (try clear hi); (try clear ho0)))
  go_loopg [5, 7] k (fun kq v5 v7 w' => ∃ (x5_1 : ByteArray) (x7_1 : Int), v5 = .string x5_1 ∧ v7 = .int .i64 x7_1 ∧ Aside0 (laws_FnMerges.l0 kq t381 t384 x5_1 (⟨#[]⟩ : ByteArray) x7_1 = some true) ∧ Aside0 (kq ≤ k) ∧ Aside0 (Kd.R k34 34 w' w.heap.size (fun k_ => some k_ ≠ (v385 : Value).ownBlock) (.slice Ao7 t381.length co7) t381) ∧ Aside0 (Kd.R k34 34 w' w.heap.size (fun k_ => some k_ ≠ ((.slice Ao7 t381.length co7) : Value).ownBlock) v385 t384) ∧ Aside0 (Below w.heap.size w w'))
  case atStart => exact ⟨((⟨#[]⟩ : ByteArray)), (0), rG, rG, H', ⟨Nat.le_refl _⟩, ⟨by (with_reducible repeat (first|apply rA|apply rN|apply rD)); exact Kd.R_mono HO383.out (fun _ hk => hk.2)⟩, ⟨by (with_reducible repeat (first|apply rA|apply rN|apply rD)); exact Kd.R_mono HO386.out (fun _ hk => hk.2)⟩, ⟨hB⟩⟩
  case round =>
   clear H'
   try clear c3
   obtain ⟨x5_1, x7_1, rfl, rfl, HA, HK1, HO_3, HO_4, HB⟩ := hrel
   cases gk with
   | zero => exact absurd HA.out (by simp [laws_FnMerges.l0])
   | succ k1 =>
    have H := HA.out
    clear HA
    simp only [laws_FnMerges.l0] at H
    by_cases c9 : x7_1 < (t381.length : Int)
    ·rw [if_pos c9] at H
     have c9b0 : decide (x7_1 < (t381.length : Int)) = true := decide_eq_true c9
     clear c9
     by_cases c10 : 0 ≤ x7_1
     ·rw [if_pos c10] at H
      have c10b0 : decide (0 ≤ x7_1) = true := decide_eq_true c10
      clear c10
      by_cases c11 : ((rd_T34 t381 x7_1).f0) = 2
      ·rw [if_pos c11] at H
       have c11b0 : (((rd_T34 t381 x7_1).f0) == 2) = true := beq_iff_eq.mpr c11
       have c11b1 : (((rd_T34 t381 x7_1).f0) != 2) = false := bne_eq_false_iff_eq.mpr c11
       clear c11
       by_cases c12 : x5_1.size + ((rd_T34 t381 x7_1).f7).size ≤ 9223372036854775807
       ·rw [if_pos c12] at H
        have c12b0 := eq_true c12
        have c12b1 : decide (x5_1.size + ((rd_T34 t381 x7_1).f7).size ≤ 9223372036854775807) = true := decide_eq_true c12
        try have c12b2 : (9223372036854775807 < x5_1.size + ((rd_T34 t381 x7_1).f7).size) = False := eq_false (Nat.not_lt.2 c12)
        have H' := Aside0.mk H
        clear H
        have p387 : 0 ≤ (x7_1 : Int) := odt
        have q387 : x7_1 < (t381.length : Int) := odt
        obtain ⟨ad387, A387_4, c387_4, A387_5, c387_5, A387_6, c387_6, e387, hx387_0, hx387_1, hx387_2, hx387_3, hx387_4, hx387_5, hx387_6, hx387_7, hl387_4, hi387_4, hl387_5, hi387_5, hl387_6, hi387_6⟩ := at_T34 (Kd.R_reads' HO_3.out).2.2 x7_1 p387 q387
        cases e387
        obtain ⟨ce387, hce387, hMe387, hcc387⟩ := Kd.R_get HO_3.out z34 x7_1 p387 (by first | exact q387 | exact odt | (have e_ := (Kd.R_reads' HO_3.out).1; omega))
        obtain ⟨ve387_4, ve387_5, ve387_6, rfl, ge387_4, ge387_5, ge387_6⟩ := k34_openM hMe387
        have hv387_4 := hcc387 4 _ rfl
        rw [add_field _ _ 4 (by omega)] at hv387_4
        replace hv387_4 := Option.some.inj (hv387_4.symm.trans hx387_4)
        rw [hv387_4] at ge387_4
        have HL387_4 := Aside0.mk (show Kd.R k88 88 _ _ _ _ ((rd_T34 t381 x7_1).f4) from ge387_4)
        clear hv387_4 ge387_4
        have hv387_5 := hcc387 5 _ rfl
        rw [add_field _ _ 5 (by omega)] at hv387_5
        replace hv387_5 := Option.some.inj (hv387_5.symm.trans hx387_5)
        rw [hv387_5] at ge387_5
        have HL387_5 := Aside0.mk (show Kd.R k90 90 _ _ _ _ ((rd_T34 t381 x7_1).f5) from ge387_5)
        clear hv387_5 ge387_5
        have hv387_6 := hcc387 6 _ rfl
        rw [add_field _ _ 6 (by omega)] at hv387_6
        replace hv387_6 := Option.some.inj (hv387_6.symm.trans hx387_6)
        rw [hv387_6] at ge387_6
        have HL387_6 := Aside0.mk (show Kd.R k34 34 _ _ _ _ ((rd_T34 t381 x7_1).f6) from ge387_6)
        clear hv387_6 ge387_6
        clear hcc387 hce387
        have HR387_4 := Aside0.mk hi387_4
        have HC387_4 := Aside0.mk hl387_4
        clear hi387_4 hl387_4
        have HR387_5 := Aside0.mk hi387_5
        have HC387_5 := Aside0.mk hl387_5
        clear hi387_5 hl387_5
        have HR387_6 := Aside0.mk hi387_6
        have HC387_6 := Aside0.mk hl387_6
        clear hi387_6 hl387_6
        replace p387 := eq_true p387
        replace q387 := eq_true q387
        have p388 : 0 ≤ (x7_1 : Int) := odt
        have q388 : x7_1 < (t381.length : Int) := odt
        obtain ⟨ad388, A388_4, c388_4, A388_5, c388_5, A388_6, c388_6, e388, hx388_0, hx388_1, hx388_2, hx388_3, hx388_4, hx388_5, hx388_6, hx388_7, hl388_4, hi388_4, hl388_5, hi388_5, hl388_6, hi388_6⟩ := at_T34 (Kd.R_reads' HO_3.out).2.2 x7_1 p388 q388
        obtain rfl : ad387 = ad388 := (by injection e388)
        obtain ⟨ce388, hce388, hMe388, hcc388⟩ := Kd.R_get HO_3.out z34 x7_1 p388 (by first | exact q388 | exact odt | (have e_ := (Kd.R_reads' HO_3.out).1; omega))
        obtain ⟨ve388_4, ve388_5, ve388_6, rfl, ge388_4, ge388_5, ge388_6⟩ := k34_openM hMe388
        have hv388_4 := hcc388 4 _ rfl
        rw [add_field _ _ 4 (by omega)] at hv388_4
        replace hv388_4 := Option.some.inj (hv388_4.symm.trans hx388_4)
        rw [hv388_4] at ge388_4
        have HL388_4 := Aside0.mk (show Kd.R k88 88 _ _ _ _ ((rd_T34 t381 x7_1).f4) from ge388_4)
        clear hv388_4 ge388_4
        have hv388_5 := hcc388 5 _ rfl
        rw [add_field _ _ 5 (by omega)] at hv388_5
        replace hv388_5 := Option.some.inj (hv388_5.symm.trans hx388_5)
        rw [hv388_5] at ge388_5
        have HL388_5 := Aside0.mk (show Kd.R k90 90 _ _ _ _ ((rd_T34 t381 x7_1).f5) from ge388_5)
        clear hv388_5 ge388_5
        have hv388_6 := hcc388 6 _ rfl
        rw [add_field _ _ 6 (by omega)] at hv388_6
        replace hv388_6 := Option.some.inj (hv388_6.symm.trans hx388_6)
        rw [hv388_6] at ge388_6
        have HL388_6 := Aside0.mk (show Kd.R k34 34 _ _ _ _ ((rd_T34 t381 x7_1).f6) from ge388_6)
        clear hv388_6 ge388_6
        clear hcc388 hce388
        have HR388_4 := Aside0.mk hi388_4
        have HC388_4 := Aside0.mk hl388_4
        clear hi388_4 hl388_4
        have HR388_5 := Aside0.mk hi388_5
        have HC388_5 := Aside0.mk hl388_5
        clear hi388_5 hl388_5
        have HR388_6 := Aside0.mk hi388_6
        have HC388_6 := Aside0.mk hl388_6
        clear hi388_6 hl388_6
        replace p388 := eq_true p388
        replace q388 := eq_true q388
        have ea_ := Option.some.inj (hx387_4.symm.trans hx388_4)
        injection ea_ with ea_ en_ ec_
        subst ea_
        subst ec_
        clear en_
        have ea_ := Option.some.inj (hx387_5.symm.trans hx388_5)
        injection ea_ with ea_ en_ ec_
        subst ea_
        subst ec_
        clear en_
        have ea_ := Option.some.inj (hx387_6.symm.trans hx388_6)
        injection ea_ with ea_ en_ ec_
        subst ea_
        subst ec_
        clear en_
        go_wp2
        go_roundg k1
        case measure => have := HK1.out; omega
        case rel => exact ⟨(x5_1 ++ ((rd_T34 t381 x7_1).f7)), (wrap64 (x7_1 + 1)), rG, rG, H', ⟨by have := HK1.out; omega⟩, ⟨by (with_reducible repeat (first|apply rA|apply rN|apply rD)); exact HO_3.out⟩, ⟨by (with_reducible repeat (first|apply rA|apply rN|apply rD)); exact HO_4.out⟩, ⟨hB⟩⟩
       ·rw [if_neg c12] at H
        exact absurd H (by simp)
      ·rw [if_neg c11] at H
       have c11b0 : (((rd_T34 t381 x7_1).f0) == 2) = false := beq_eq_false_iff_ne.mpr c11
       have c11b1 : (((rd_T34 t381 x7_1).f0) != 2) = true := bne_iff_ne.mpr c11
       by_cases c13 : x5_1.size + 1 ≤ 9223372036854775807
       ·rw [if_pos c13] at H
        have c13b0 := eq_true c13
        have c13b1 : decide (x5_1.size + 1 ≤ 9223372036854775807) = true := decide_eq_true c13
        try have c13b2 : (9223372036854775807 < x5_1.size + 1) = False := eq_false (Nat.not_lt.2 c13)
        have H' := Aside0.mk H
        clear H
        have p387 : 0 ≤ (x7_1 : Int) := odt
        have q387 : x7_1 < (t381.length : Int) := odt
        obtain ⟨ad387, A387_4, c387_4, A387_5, c387_5, A387_6, c387_6, e387, hx387_0, hx387_1, hx387_2, hx387_3, hx387_4, hx387_5, hx387_6, hx387_7, hl387_4, hi387_4, hl387_5, hi387_5, hl387_6, hi387_6⟩ := at_T34 (Kd.R_reads' HO_3.out).2.2 x7_1 p387 q387
        cases e387
        obtain ⟨ce387, hce387, hMe387, hcc387⟩ := Kd.R_get HO_3.out z34 x7_1 p387 (by first | exact q387 | exact odt | (have e_ := (Kd.R_reads' HO_3.out).1; omega))
        obtain ⟨ve387_4, ve387_5, ve387_6, rfl, ge387_4, ge387_5, ge387_6⟩ := k34_openM hMe387
        have hv387_4 := hcc387 4 _ rfl
        rw [add_field _ _ 4 (by omega)] at hv387_4
        replace hv387_4 := Option.some.inj (hv387_4.symm.trans hx387_4)
        rw [hv387_4] at ge387_4
        have HL387_4 := Aside0.mk (show Kd.R k88 88 _ _ _ _ ((rd_T34 t381 x7_1).f4) from ge387_4)
        clear hv387_4 ge387_4
        have hv387_5 := hcc387 5 _ rfl
        rw [add_field _ _ 5 (by omega)] at hv387_5
        replace hv387_5 := Option.some.inj (hv387_5.symm.trans hx387_5)
        rw [hv387_5] at ge387_5
        have HL387_5 := Aside0.mk (show Kd.R k90 90 _ _ _ _ ((rd_T34 t381 x7_1).f5) from ge387_5)
        clear hv387_5 ge387_5
        have hv387_6 := hcc387 6 _ rfl
        rw [add_field _ _ 6 (by omega)] at hv387_6
        replace hv387_6 := Option.some.inj (hv387_6.symm.trans hx387_6)
        rw [hv387_6] at ge387_6
        have HL387_6 := Aside0.mk (show Kd.R k34 34 _ _ _ _ ((rd_T34 t381 x7_1).f6) from ge387_6)
        clear hv387_6 ge387_6
        clear hcc387 hce387
        have HR387_4 := Aside0.mk hi387_4
        have HC387_4 := Aside0.mk hl387_4
        clear hi387_4 hl387_4
        have HR387_5 := Aside0.mk hi387_5
        have HC387_5 := Aside0.mk hl387_5
        clear hi387_5 hl387_5
        have HR387_6 := Aside0.mk hi387_6
        have HC387_6 := Aside0.mk hl387_6
        clear hi387_6 hl387_6
        replace p387 := eq_true p387
        replace q387 := eq_true q387
        go_wp2
        go_roundg k1
        case measure => have := HK1.out; omega
        case rel => exact ⟨(x5_1 ++ (⟨#[124]⟩ : ByteArray)), (wrap64 (x7_1 + 1)), rG, rG, H', ⟨by have := HK1.out; omega⟩, ⟨by (with_reducible repeat (first|apply rA|apply rN|apply rD)); exact HO_3.out⟩, ⟨by (with_reducible repeat (first|apply rA|apply rN|apply rD)); exact HO_4.out⟩, ⟨hB⟩⟩
       ·rw [if_neg c13] at H
        exact absurd H (by simp)
     ·rw [if_neg c10] at H
      exact absurd H (by simp)
    ·rw [if_neg c9] at H
     have c9b0 : decide (x7_1 < (t381.length : Int)) = false := decide_eq_false c9
     clear c9
     have H' := Aside0.mk H
     clear H
     go_wp2
     go_loopg [6, 8] k1 (fun kq v6 v8 w' => ∃ (x6_2 : ByteArray) (x8_2 : Int), v6 = .string x6_2 ∧ v8 = .int .i64 x8_2 ∧ Aside0 (laws_FnMerges.l1 kq t381 t384 x5_1 x6_2 x8_2 = some true) ∧ Aside0 (kq ≤ k1) ∧ Aside0 (Kd.R k34 34 w' w.heap.size (fun k_ => some k_ ≠ (v385 : Value).ownBlock) (.slice Ao7 t381.length co7) t381) ∧ Aside0 (Kd.R k34 34 w' w.heap.size (fun k_ => some k_ ≠ ((.slice Ao7 t381.length co7) : Value).ownBlock) v385 t384) ∧ Aside0 (Below w.heap.size w w'))
     case atStart => exact ⟨((⟨#[]⟩ : ByteArray)), (0), rG, rG, H', ⟨Nat.le_refl _⟩, ⟨by (with_reducible repeat (first|apply rA|apply rN|apply rD)); exact HO_3.out⟩, ⟨by (with_reducible repeat (first|apply rA|apply rN|apply rD)); exact HO_4.out⟩, ⟨hB⟩⟩
     case round =>
      clear H'
      try clear c9; try clear c9b0; try clear c3
      obtain ⟨x6_2, x8_2, rfl, rfl, HA, HK2, HO_3, HO_4, HB⟩ := hrel
      cases gk with
      | zero => exact absurd HA.out (by simp [laws_FnMerges.l1])
      | succ k2 =>
       have H := HA.out
       clear HA
       simp only [laws_FnMerges.l1] at H
       by_cases c14 : x8_2 < (t384.length : Int)
       ·rw [if_pos c14] at H
        have c14b0 : decide (x8_2 < (t384.length : Int)) = true := decide_eq_true c14
        clear c14
        by_cases c15 : 0 ≤ x8_2
        ·rw [if_pos c15] at H
         have c15b0 : decide (0 ≤ x8_2) = true := decide_eq_true c15
         clear c15
         by_cases c16 : ((rd_T34 t384 x8_2).f0) = 2
         ·rw [if_pos c16] at H
          have c16b0 : (((rd_T34 t384 x8_2).f0) == 2) = true := beq_iff_eq.mpr c16
          have c16b1 : (((rd_T34 t384 x8_2).f0) != 2) = false := bne_eq_false_iff_eq.mpr c16
          clear c16
          by_cases c17 : x6_2.size + ((rd_T34 t384 x8_2).f7).size ≤ 9223372036854775807
          ·rw [if_pos c17] at H
           have c17b0 := eq_true c17
           have c17b1 : decide (x6_2.size + ((rd_T34 t384 x8_2).f7).size ≤ 9223372036854775807) = true := decide_eq_true c17
           try have c17b2 : (9223372036854775807 < x6_2.size + ((rd_T34 t384 x8_2).f7).size) = False := eq_false (Nat.not_lt.2 c17)
           by_cases c18 : ((rd_T34 t384 x8_2).f7).toList = ([] : List UInt8)
           ·rw [if_pos c18] at H
            have c18b0 : (((rd_T34 t384 x8_2).f7).toList == ([] : List UInt8)) = true := beq_iff_eq.mpr c18
            have c18b1 : (((rd_T34 t384 x8_2).f7).toList != ([] : List UInt8)) = false := bne_eq_false_iff_eq.mpr c18
            clear c18
            exact absurd (Option.some.inj H) (by simp)
           ·rw [if_neg c18] at H
            have c18b0 : (((rd_T34 t384 x8_2).f7).toList == ([] : List UInt8)) = false := beq_eq_false_iff_ne.mpr c18
            have c18b1 : (((rd_T34 t384 x8_2).f7).toList != ([] : List UInt8)) = true := bne_iff_ne.mpr c18
            by_cases c20 : x8_2 > 0
            ·rw [if_pos c20] at H
             have c20b0 : decide (0 < x8_2) = true := decide_eq_true c20
             clear c20
             obtain ⟨ji21, hji21⟩ : ∃ j_ : Int, (wrap64 (x8_2 - 1)) = j_ := ⟨_, rfl⟩
             replace H : (if 0 ≤ (ji21) then (if (ji21) < (t384.length : Int) then (if ((rd_T34 t384 (ji21)).f0) = 2 then (some false) else (laws_FnMerges.l1 k2 t381 t384 x5_1 (x6_2 ++ ((rd_T34 t384 x8_2).f7)) (wrap64 (x8_2 + 1)))) else (none)) else (none)) = some true := by first | (rw [hji21] at H; exact H) | (simp only [hji21] at H ⊢; exact H)
             have hji21w : (IntKind.i64.wrap (x8_2 - 1)) = ji21 := (i64_w _).trans hji21
             by_cases c22 : 0 ≤ (ji21)
             ·rw [if_pos c22] at H
              have c22b0 : decide (0 ≤ (ji21)) = true := decide_eq_true c22
              clear c22
              by_cases c23 : (ji21) < (t384.length : Int)
              ·rw [if_pos c23] at H
               have c23b0 : decide ((ji21) < (t384.length : Int)) = true := decide_eq_true c23
               clear c23
               by_cases c24 : ((rd_T34 t384 (ji21)).f0) = 2
               ·rw [if_pos c24] at H
                exact absurd H (by simp)
               ·rw [if_neg c24] at H
                have c24b0 : (((rd_T34 t384 (ji21)).f0) == 2) = false := beq_eq_false_iff_ne.mpr c24
                have c24b1 : (((rd_T34 t384 (ji21)).f0) != 2) = true := bne_iff_ne.mpr c24
                have H' := Aside0.mk H
                clear H
                obtain ⟨Ao26, co26, eo26⟩ := Kd.R_slice HO_4.out
                subst eo26
                have p389 : 0 ≤ (x8_2 : Int) := odt
                have q389 : x8_2 < (t384.length : Int) := odt
                obtain ⟨ad389, A389_4, c389_4, A389_5, c389_5, A389_6, c389_6, e389, hx389_0, hx389_1, hx389_2, hx389_3, hx389_4, hx389_5, hx389_6, hx389_7, hl389_4, hi389_4, hl389_5, hi389_5, hl389_6, hi389_6⟩ := at_T34 (Kd.R_reads' HO_4.out).2.2 x8_2 p389 q389
                cases e389
                obtain ⟨ce389, hce389, hMe389, hcc389⟩ := Kd.R_get HO_4.out z34 x8_2 p389 (by first | exact q389 | exact odt | (have e_ := (Kd.R_reads' HO_4.out).1; omega))
                obtain ⟨ve389_4, ve389_5, ve389_6, rfl, ge389_4, ge389_5, ge389_6⟩ := k34_openM hMe389
                have hv389_4 := hcc389 4 _ rfl
                rw [add_field _ _ 4 (by omega)] at hv389_4
                replace hv389_4 := Option.some.inj (hv389_4.symm.trans hx389_4)
                rw [hv389_4] at ge389_4
                have HL389_4 := Aside0.mk (show Kd.R k88 88 _ _ _ _ ((rd_T34 t384 x8_2).f4) from ge389_4)
                clear hv389_4 ge389_4
                have hv389_5 := hcc389 5 _ rfl
                rw [add_field _ _ 5 (by omega)] at hv389_5
                replace hv389_5 := Option.some.inj (hv389_5.symm.trans hx389_5)
                rw [hv389_5] at ge389_5
                have HL389_5 := Aside0.mk (show Kd.R k90 90 _ _ _ _ ((rd_T34 t384 x8_2).f5) from ge389_5)
                clear hv389_5 ge389_5
                have hv389_6 := hcc389 6 _ rfl
                rw [add_field _ _ 6 (by omega)] at hv389_6
                replace hv389_6 := Option.some.inj (hv389_6.symm.trans hx389_6)
                rw [hv389_6] at ge389_6
                have HL389_6 := Aside0.mk (show Kd.R k34 34 _ _ _ _ ((rd_T34 t384 x8_2).f6) from ge389_6)
                clear hv389_6 ge389_6
                clear hcc389 hce389
                have HR389_4 := Aside0.mk hi389_4
                have HC389_4 := Aside0.mk hl389_4
                clear hi389_4 hl389_4
                have HR389_5 := Aside0.mk hi389_5
                have HC389_5 := Aside0.mk hl389_5
                clear hi389_5 hl389_5
                have HR389_6 := Aside0.mk hi389_6
                have HC389_6 := Aside0.mk hl389_6
                clear hi389_6 hl389_6
                replace p389 := eq_true p389
                replace q389 := eq_true q389
                have p390 : 0 ≤ (x8_2 : Int) := odt
                have q390 : x8_2 < (t384.length : Int) := odt
                obtain ⟨ad390, A390_4, c390_4, A390_5, c390_5, A390_6, c390_6, e390, hx390_0, hx390_1, hx390_2, hx390_3, hx390_4, hx390_5, hx390_6, hx390_7, hl390_4, hi390_4, hl390_5, hi390_5, hl390_6, hi390_6⟩ := at_T34 (Kd.R_reads' HO_4.out).2.2 x8_2 p390 q390
                obtain rfl : ad389 = ad390 := (by injection e390)
                obtain ⟨ce390, hce390, hMe390, hcc390⟩ := Kd.R_get HO_4.out z34 x8_2 p390 (by first | exact q390 | exact odt | (have e_ := (Kd.R_reads' HO_4.out).1; omega))
                obtain ⟨ve390_4, ve390_5, ve390_6, rfl, ge390_4, ge390_5, ge390_6⟩ := k34_openM hMe390
                have hv390_4 := hcc390 4 _ rfl
                rw [add_field _ _ 4 (by omega)] at hv390_4
                replace hv390_4 := Option.some.inj (hv390_4.symm.trans hx390_4)
                rw [hv390_4] at ge390_4
                have HL390_4 := Aside0.mk (show Kd.R k88 88 _ _ _ _ ((rd_T34 t384 x8_2).f4) from ge390_4)
                clear hv390_4 ge390_4
                have hv390_5 := hcc390 5 _ rfl
                rw [add_field _ _ 5 (by omega)] at hv390_5
                replace hv390_5 := Option.some.inj (hv390_5.symm.trans hx390_5)
                rw [hv390_5] at ge390_5
                have HL390_5 := Aside0.mk (show Kd.R k90 90 _ _ _ _ ((rd_T34 t384 x8_2).f5) from ge390_5)
                clear hv390_5 ge390_5
                have hv390_6 := hcc390 6 _ rfl
                rw [add_field _ _ 6 (by omega)] at hv390_6
                replace hv390_6 := Option.some.inj (hv390_6.symm.trans hx390_6)
                rw [hv390_6] at ge390_6
                have HL390_6 := Aside0.mk (show Kd.R k34 34 _ _ _ _ ((rd_T34 t384 x8_2).f6) from ge390_6)
                clear hv390_6 ge390_6
                clear hcc390 hce390
                have HR390_4 := Aside0.mk hi390_4
                have HC390_4 := Aside0.mk hl390_4
                clear hi390_4 hl390_4
                have HR390_5 := Aside0.mk hi390_5
                have HC390_5 := Aside0.mk hl390_5
                clear hi390_5 hl390_5
                have HR390_6 := Aside0.mk hi390_6
                have HC390_6 := Aside0.mk hl390_6
                clear hi390_6 hl390_6
                replace p390 := eq_true p390
                replace q390 := eq_true q390
                have ea_ := Option.some.inj (hx389_4.symm.trans hx390_4)
                injection ea_ with ea_ en_ ec_
                subst ea_
                subst ec_
                clear en_
                have ea_ := Option.some.inj (hx389_5.symm.trans hx390_5)
                injection ea_ with ea_ en_ ec_
                subst ea_
                subst ec_
                clear en_
                have ea_ := Option.some.inj (hx389_6.symm.trans hx390_6)
                injection ea_ with ea_ en_ ec_
                subst ea_
                subst ec_
                clear en_
                have p391 : 0 ≤ (x8_2 : Int) := odt
                have q391 : x8_2 < (t384.length : Int) := odt
                obtain ⟨ad391, A391_4, c391_4, A391_5, c391_5, A391_6, c391_6, e391, hx391_0, hx391_1, hx391_2, hx391_3, hx391_4, hx391_5, hx391_6, hx391_7, hl391_4, hi391_4, hl391_5, hi391_5, hl391_6, hi391_6⟩ := at_T34 (Kd.R_reads' HO_4.out).2.2 x8_2 p391 q391
                obtain rfl : ad389 = ad391 := (by injection e391)
                obtain ⟨ce391, hce391, hMe391, hcc391⟩ := Kd.R_get HO_4.out z34 x8_2 p391 (by first | exact q391 | exact odt | (have e_ := (Kd.R_reads' HO_4.out).1; omega))
                obtain ⟨ve391_4, ve391_5, ve391_6, rfl, ge391_4, ge391_5, ge391_6⟩ := k34_openM hMe391
                have hv391_4 := hcc391 4 _ rfl
                rw [add_field _ _ 4 (by omega)] at hv391_4
                replace hv391_4 := Option.some.inj (hv391_4.symm.trans hx391_4)
                rw [hv391_4] at ge391_4
                have HL391_4 := Aside0.mk (show Kd.R k88 88 _ _ _ _ ((rd_T34 t384 x8_2).f4) from ge391_4)
                clear hv391_4 ge391_4
                have hv391_5 := hcc391 5 _ rfl
                rw [add_field _ _ 5 (by omega)] at hv391_5
                replace hv391_5 := Option.some.inj (hv391_5.symm.trans hx391_5)
                rw [hv391_5] at ge391_5
                have HL391_5 := Aside0.mk (show Kd.R k90 90 _ _ _ _ ((rd_T34 t384 x8_2).f5) from ge391_5)
                clear hv391_5 ge391_5
                have hv391_6 := hcc391 6 _ rfl
                rw [add_field _ _ 6 (by omega)] at hv391_6
                replace hv391_6 := Option.some.inj (hv391_6.symm.trans hx391_6)
                rw [hv391_6] at ge391_6
                have HL391_6 := Aside0.mk (show Kd.R k34 34 _ _ _ _ ((rd_T34 t384 x8_2).f6) from ge391_6)
                clear hv391_6 ge391_6
                clear hcc391 hce391
                have HR391_4 := Aside0.mk hi391_4
                have HC391_4 := Aside0.mk hl391_4
                clear hi391_4 hl391_4
                have HR391_5 := Aside0.mk hi391_5
                have HC391_5 := Aside0.mk hl391_5
                clear hi391_5 hl391_5
                have HR391_6 := Aside0.mk hi391_6
                have HC391_6 := Aside0.mk hl391_6
                clear hi391_6 hl391_6
                replace p391 := eq_true p391
                replace q391 := eq_true q391
                have ea_ := Option.some.inj (hx389_4.symm.trans hx391_4)
                injection ea_ with ea_ en_ ec_
                subst ea_
                subst ec_
                clear en_
                have ea_ := Option.some.inj (hx389_5.symm.trans hx391_5)
                injection ea_ with ea_ en_ ec_
                subst ea_
                subst ec_
                clear en_
                have ea_ := Option.some.inj (hx389_6.symm.trans hx391_6)
                injection ea_ with ea_ en_ ec_
                subst ea_
                subst ec_
                clear en_
                have p392 : 0 ≤ ((ji21) : Int) := odt
                have q392 : (ji21) < (t384.length : Int) := odt
                obtain ⟨ad392, A392_4, c392_4, A392_5, c392_5, A392_6, c392_6, e392, hx392_0, hx392_1, hx392_2, hx392_3, hx392_4, hx392_5, hx392_6, hx392_7, hl392_4, hi392_4, hl392_5, hi392_5, hl392_6, hi392_6⟩ := at_T34 (Kd.R_reads' HO_4.out).2.2 (ji21) p392 q392
                obtain rfl : ad389 = ad392 := (by injection e392)
                obtain ⟨ce392, hce392, hMe392, hcc392⟩ := Kd.R_get HO_4.out z34 (ji21) p392 (by first | exact q392 | exact odt | (have e_ := (Kd.R_reads' HO_4.out).1; omega))
                obtain ⟨ve392_4, ve392_5, ve392_6, rfl, ge392_4, ge392_5, ge392_6⟩ := k34_openM hMe392
                have hv392_4 := hcc392 4 _ rfl
                rw [add_field _ _ 4 (by omega)] at hv392_4
                replace hv392_4 := Option.some.inj (hv392_4.symm.trans hx392_4)
                rw [hv392_4] at ge392_4
                have HL392_4 := Aside0.mk (show Kd.R k88 88 _ _ _ _ ((rd_T34 t384 (ji21)).f4) from ge392_4)
                clear hv392_4 ge392_4
                have hv392_5 := hcc392 5 _ rfl
                rw [add_field _ _ 5 (by omega)] at hv392_5
                replace hv392_5 := Option.some.inj (hv392_5.symm.trans hx392_5)
                rw [hv392_5] at ge392_5
                have HL392_5 := Aside0.mk (show Kd.R k90 90 _ _ _ _ ((rd_T34 t384 (ji21)).f5) from ge392_5)
                clear hv392_5 ge392_5
                have hv392_6 := hcc392 6 _ rfl
                rw [add_field _ _ 6 (by omega)] at hv392_6
                replace hv392_6 := Option.some.inj (hv392_6.symm.trans hx392_6)
                rw [hv392_6] at ge392_6
                have HL392_6 := Aside0.mk (show Kd.R k34 34 _ _ _ _ ((rd_T34 t384 (ji21)).f6) from ge392_6)
                clear hv392_6 ge392_6
                clear hcc392 hce392
                have HR392_4 := Aside0.mk hi392_4
                have HC392_4 := Aside0.mk hl392_4
                clear hi392_4 hl392_4
                have HR392_5 := Aside0.mk hi392_5
                have HC392_5 := Aside0.mk hl392_5
                clear hi392_5 hl392_5
                have HR392_6 := Aside0.mk hi392_6
                have HC392_6 := Aside0.mk hl392_6
                clear hi392_6 hl392_6
                replace p392 := eq_true p392
                replace q392 := eq_true q392
                go_wp2
                go_roundg k2
                case measure => have := HK1.out; have := HK2.out; omega
                case rel => exact ⟨(x6_2 ++ ((rd_T34 t384 x8_2).f7)), (wrap64 (x8_2 + 1)), rG, rG, H', ⟨by have := HK1.out; have := HK2.out; omega⟩, ⟨by (with_reducible repeat (first|apply rA|apply rN|apply rD)); exact HO_3.out⟩, ⟨by (with_reducible repeat (first|apply rA|apply rN|apply rD)); exact HO_4.out⟩, ⟨hB⟩⟩
              ·rw [if_neg c23] at H
               exact absurd H (by simp)
             ·rw [if_neg c22] at H
              exact absurd H (by simp)
            ·rw [if_neg c20] at H
             have c20b0 : decide (0 < x8_2) = false := decide_eq_false c20
             clear c20
             have H' := Aside0.mk H
             clear H
             obtain ⟨Ao27, co27, eo27⟩ := Kd.R_slice HO_4.out
             subst eo27
             have p389 : 0 ≤ (x8_2 : Int) := odt
             have q389 : x8_2 < (t384.length : Int) := odt
             obtain ⟨ad389, A389_4, c389_4, A389_5, c389_5, A389_6, c389_6, e389, hx389_0, hx389_1, hx389_2, hx389_3, hx389_4, hx389_5, hx389_6, hx389_7, hl389_4, hi389_4, hl389_5, hi389_5, hl389_6, hi389_6⟩ := at_T34 (Kd.R_reads' HO_4.out).2.2 x8_2 p389 q389
             cases e389
             obtain ⟨ce389, hce389, hMe389, hcc389⟩ := Kd.R_get HO_4.out z34 x8_2 p389 (by first | exact q389 | exact odt | (have e_ := (Kd.R_reads' HO_4.out).1; omega))
             obtain ⟨ve389_4, ve389_5, ve389_6, rfl, ge389_4, ge389_5, ge389_6⟩ := k34_openM hMe389
             have hv389_4 := hcc389 4 _ rfl
             rw [add_field _ _ 4 (by omega)] at hv389_4
             replace hv389_4 := Option.some.inj (hv389_4.symm.trans hx389_4)
             rw [hv389_4] at ge389_4
             have HL389_4 := Aside0.mk (show Kd.R k88 88 _ _ _ _ ((rd_T34 t384 x8_2).f4) from ge389_4)
             clear hv389_4 ge389_4
             have hv389_5 := hcc389 5 _ rfl
             rw [add_field _ _ 5 (by omega)] at hv389_5
             replace hv389_5 := Option.some.inj (hv389_5.symm.trans hx389_5)
             rw [hv389_5] at ge389_5
             have HL389_5 := Aside0.mk (show Kd.R k90 90 _ _ _ _ ((rd_T34 t384 x8_2).f5) from ge389_5)
             clear hv389_5 ge389_5
             have hv389_6 := hcc389 6 _ rfl
             rw [add_field _ _ 6 (by omega)] at hv389_6
             replace hv389_6 := Option.some.inj (hv389_6.symm.trans hx389_6)
             rw [hv389_6] at ge389_6
             have HL389_6 := Aside0.mk (show Kd.R k34 34 _ _ _ _ ((rd_T34 t384 x8_2).f6) from ge389_6)
             clear hv389_6 ge389_6
             clear hcc389 hce389
             have HR389_4 := Aside0.mk hi389_4
             have HC389_4 := Aside0.mk hl389_4
             clear hi389_4 hl389_4
             have HR389_5 := Aside0.mk hi389_5
             have HC389_5 := Aside0.mk hl389_5
             clear hi389_5 hl389_5
             have HR389_6 := Aside0.mk hi389_6
             have HC389_6 := Aside0.mk hl389_6
             clear hi389_6 hl389_6
             replace p389 := eq_true p389
             replace q389 := eq_true q389
             have p390 : 0 ≤ (x8_2 : Int) := odt
             have q390 : x8_2 < (t384.length : Int) := odt
             obtain ⟨ad390, A390_4, c390_4, A390_5, c390_5, A390_6, c390_6, e390, hx390_0, hx390_1, hx390_2, hx390_3, hx390_4, hx390_5, hx390_6, hx390_7, hl390_4, hi390_4, hl390_5, hi390_5, hl390_6, hi390_6⟩ := at_T34 (Kd.R_reads' HO_4.out).2.2 x8_2 p390 q390
             obtain rfl : ad389 = ad390 := (by injection e390)
             obtain ⟨ce390, hce390, hMe390, hcc390⟩ := Kd.R_get HO_4.out z34 x8_2 p390 (by first | exact q390 | exact odt | (have e_ := (Kd.R_reads' HO_4.out).1; omega))
             obtain ⟨ve390_4, ve390_5, ve390_6, rfl, ge390_4, ge390_5, ge390_6⟩ := k34_openM hMe390
             have hv390_4 := hcc390 4 _ rfl
             rw [add_field _ _ 4 (by omega)] at hv390_4
             replace hv390_4 := Option.some.inj (hv390_4.symm.trans hx390_4)
             rw [hv390_4] at ge390_4
             have HL390_4 := Aside0.mk (show Kd.R k88 88 _ _ _ _ ((rd_T34 t384 x8_2).f4) from ge390_4)
             clear hv390_4 ge390_4
             have hv390_5 := hcc390 5 _ rfl
             rw [add_field _ _ 5 (by omega)] at hv390_5
             replace hv390_5 := Option.some.inj (hv390_5.symm.trans hx390_5)
             rw [hv390_5] at ge390_5
             have HL390_5 := Aside0.mk (show Kd.R k90 90 _ _ _ _ ((rd_T34 t384 x8_2).f5) from ge390_5)
             clear hv390_5 ge390_5
             have hv390_6 := hcc390 6 _ rfl
             rw [add_field _ _ 6 (by omega)] at hv390_6
             replace hv390_6 := Option.some.inj (hv390_6.symm.trans hx390_6)
             rw [hv390_6] at ge390_6
             have HL390_6 := Aside0.mk (show Kd.R k34 34 _ _ _ _ ((rd_T34 t384 x8_2).f6) from ge390_6)
             clear hv390_6 ge390_6
             clear hcc390 hce390
             have HR390_4 := Aside0.mk hi390_4
             have HC390_4 := Aside0.mk hl390_4
             clear hi390_4 hl390_4
             have HR390_5 := Aside0.mk hi390_5
             have HC390_5 := Aside0.mk hl390_5
             clear hi390_5 hl390_5
             have HR390_6 := Aside0.mk hi390_6
             have HC390_6 := Aside0.mk hl390_6
             clear hi390_6 hl390_6
             replace p390 := eq_true p390
             replace q390 := eq_true q390
             have ea_ := Option.some.inj (hx389_4.symm.trans hx390_4)
             injection ea_ with ea_ en_ ec_
             subst ea_
             subst ec_
             clear en_
             have ea_ := Option.some.inj (hx389_5.symm.trans hx390_5)
             injection ea_ with ea_ en_ ec_
             subst ea_
             subst ec_
             clear en_
             have ea_ := Option.some.inj (hx389_6.symm.trans hx390_6)
             injection ea_ with ea_ en_ ec_
             subst ea_
             subst ec_
             clear en_
             have p391 : 0 ≤ (x8_2 : Int) := odt
             have q391 : x8_2 < (t384.length : Int) := odt
             obtain ⟨ad391, A391_4, c391_4, A391_5, c391_5, A391_6, c391_6, e391, hx391_0, hx391_1, hx391_2, hx391_3, hx391_4, hx391_5, hx391_6, hx391_7, hl391_4, hi391_4, hl391_5, hi391_5, hl391_6, hi391_6⟩ := at_T34 (Kd.R_reads' HO_4.out).2.2 x8_2 p391 q391
             obtain rfl : ad389 = ad391 := (by injection e391)
             obtain ⟨ce391, hce391, hMe391, hcc391⟩ := Kd.R_get HO_4.out z34 x8_2 p391 (by first | exact q391 | exact odt | (have e_ := (Kd.R_reads' HO_4.out).1; omega))
             obtain ⟨ve391_4, ve391_5, ve391_6, rfl, ge391_4, ge391_5, ge391_6⟩ := k34_openM hMe391
             have hv391_4 := hcc391 4 _ rfl
             rw [add_field _ _ 4 (by omega)] at hv391_4
             replace hv391_4 := Option.some.inj (hv391_4.symm.trans hx391_4)
             rw [hv391_4] at ge391_4
             have HL391_4 := Aside0.mk (show Kd.R k88 88 _ _ _ _ ((rd_T34 t384 x8_2).f4) from ge391_4)
             clear hv391_4 ge391_4
             have hv391_5 := hcc391 5 _ rfl
             rw [add_field _ _ 5 (by omega)] at hv391_5
             replace hv391_5 := Option.some.inj (hv391_5.symm.trans hx391_5)
             rw [hv391_5] at ge391_5
             have HL391_5 := Aside0.mk (show Kd.R k90 90 _ _ _ _ ((rd_T34 t384 x8_2).f5) from ge391_5)
             clear hv391_5 ge391_5
             have hv391_6 := hcc391 6 _ rfl
             rw [add_field _ _ 6 (by omega)] at hv391_6
             replace hv391_6 := Option.some.inj (hv391_6.symm.trans hx391_6)
             rw [hv391_6] at ge391_6
             have HL391_6 := Aside0.mk (show Kd.R k34 34 _ _ _ _ ((rd_T34 t384 x8_2).f6) from ge391_6)
             clear hv391_6 ge391_6
             clear hcc391 hce391
             have HR391_4 := Aside0.mk hi391_4
             have HC391_4 := Aside0.mk hl391_4
             clear hi391_4 hl391_4
             have HR391_5 := Aside0.mk hi391_5
             have HC391_5 := Aside0.mk hl391_5
             clear hi391_5 hl391_5
             have HR391_6 := Aside0.mk hi391_6
             have HC391_6 := Aside0.mk hl391_6
             clear hi391_6 hl391_6
             replace p391 := eq_true p391
             replace q391 := eq_true q391
             have ea_ := Option.some.inj (hx389_4.symm.trans hx391_4)
             injection ea_ with ea_ en_ ec_
             subst ea_
             subst ec_
             clear en_
             have ea_ := Option.some.inj (hx389_5.symm.trans hx391_5)
             injection ea_ with ea_ en_ ec_
             subst ea_
             subst ec_
             clear en_
             have ea_ := Option.some.inj (hx389_6.symm.trans hx391_6)
             injection ea_ with ea_ en_ ec_
             subst ea_
             subst ec_
             clear en_
             go_wp2
             go_roundg k2
             case measure => have := HK1.out; have := HK2.out; omega
             case rel => exact ⟨(x6_2 ++ ((rd_T34 t384 x8_2).f7)), (wrap64 (x8_2 + 1)), rG, rG, H', ⟨by have := HK1.out; have := HK2.out; omega⟩, ⟨by (with_reducible repeat (first|apply rA|apply rN|apply rD)); exact HO_3.out⟩, ⟨by (with_reducible repeat (first|apply rA|apply rN|apply rD)); exact HO_4.out⟩, ⟨hB⟩⟩
          ·rw [if_neg c17] at H
           exact absurd H (by simp)
         ·rw [if_neg c16] at H
          have c16b0 : (((rd_T34 t384 x8_2).f0) == 2) = false := beq_eq_false_iff_ne.mpr c16
          have c16b1 : (((rd_T34 t384 x8_2).f0) != 2) = true := bne_iff_ne.mpr c16
          by_cases c28 : x6_2.size + 1 ≤ 9223372036854775807
          ·rw [if_pos c28] at H
           have c28b0 := eq_true c28
           have c28b1 : decide (x6_2.size + 1 ≤ 9223372036854775807) = true := decide_eq_true c28
           try have c28b2 : (9223372036854775807 < x6_2.size + 1) = False := eq_false (Nat.not_lt.2 c28)
           have H' := Aside0.mk H
           clear H
           obtain ⟨Ao29, co29, eo29⟩ := Kd.R_slice HO_4.out
           subst eo29
           have p389 : 0 ≤ (x8_2 : Int) := odt
           have q389 : x8_2 < (t384.length : Int) := odt
           obtain ⟨ad389, A389_4, c389_4, A389_5, c389_5, A389_6, c389_6, e389, hx389_0, hx389_1, hx389_2, hx389_3, hx389_4, hx389_5, hx389_6, hx389_7, hl389_4, hi389_4, hl389_5, hi389_5, hl389_6, hi389_6⟩ := at_T34 (Kd.R_reads' HO_4.out).2.2 x8_2 p389 q389
           cases e389
           obtain ⟨ce389, hce389, hMe389, hcc389⟩ := Kd.R_get HO_4.out z34 x8_2 p389 (by first | exact q389 | exact odt | (have e_ := (Kd.R_reads' HO_4.out).1; omega))
           obtain ⟨ve389_4, ve389_5, ve389_6, rfl, ge389_4, ge389_5, ge389_6⟩ := k34_openM hMe389
           have hv389_4 := hcc389 4 _ rfl
           rw [add_field _ _ 4 (by omega)] at hv389_4
           replace hv389_4 := Option.some.inj (hv389_4.symm.trans hx389_4)
           rw [hv389_4] at ge389_4
           have HL389_4 := Aside0.mk (show Kd.R k88 88 _ _ _ _ ((rd_T34 t384 x8_2).f4) from ge389_4)
           clear hv389_4 ge389_4
           have hv389_5 := hcc389 5 _ rfl
           rw [add_field _ _ 5 (by omega)] at hv389_5
           replace hv389_5 := Option.some.inj (hv389_5.symm.trans hx389_5)
           rw [hv389_5] at ge389_5
           have HL389_5 := Aside0.mk (show Kd.R k90 90 _ _ _ _ ((rd_T34 t384 x8_2).f5) from ge389_5)
           clear hv389_5 ge389_5
           have hv389_6 := hcc389 6 _ rfl
           rw [add_field _ _ 6 (by omega)] at hv389_6
           replace hv389_6 := Option.some.inj (hv389_6.symm.trans hx389_6)
           rw [hv389_6] at ge389_6
           have HL389_6 := Aside0.mk (show Kd.R k34 34 _ _ _ _ ((rd_T34 t384 x8_2).f6) from ge389_6)
           clear hv389_6 ge389_6
           clear hcc389 hce389
           have HR389_4 := Aside0.mk hi389_4
           have HC389_4 := Aside0.mk hl389_4
           clear hi389_4 hl389_4
           have HR389_5 := Aside0.mk hi389_5
           have HC389_5 := Aside0.mk hl389_5
           clear hi389_5 hl389_5
           have HR389_6 := Aside0.mk hi389_6
           have HC389_6 := Aside0.mk hl389_6
           clear hi389_6 hl389_6
           replace p389 := eq_true p389
           replace q389 := eq_true q389
           go_wp2
           go_roundg k2
           case measure => have := HK1.out; have := HK2.out; omega
           case rel => exact ⟨(x6_2 ++ (⟨#[124]⟩ : ByteArray)), (wrap64 (x8_2 + 1)), rG, rG, H', ⟨by have := HK1.out; have := HK2.out; omega⟩, ⟨by (with_reducible repeat (first|apply rA|apply rN|apply rD)); exact HO_3.out⟩, ⟨by (with_reducible repeat (first|apply rA|apply rN|apply rD)); exact HO_4.out⟩, ⟨hB⟩⟩
          ·rw [if_neg c28] at H
           exact absurd H (by simp)
        ·rw [if_neg c15] at H
         exact absurd H (by simp)
       ·rw [if_neg c14] at H
        have c14b0 : decide (x8_2 < (t384.length : Int)) = false := decide_eq_false c14
        clear c14
        by_cases c30 : x5_1.toList = x6_2.toList
        ·rw [if_pos c30] at H
         have c30b0 : (x5_1.toList == x6_2.toList) = true := beq_iff_eq.mpr c30
         have c30b1 : (x5_1.toList != x6_2.toList) = false := bne_eq_false_iff_eq.mpr c30
         clear c30
         replace H := Option.bind_eq_some_iff.mp H
         obtain ⟨t393, A310, H⟩ := H
         try dsimp only at H
         have A31 := Aside0.mk A310
         clear A310
         replace H := Option.bind_eq_some_iff.mp H
         obtain ⟨t396, A320, H⟩ := H
         try dsimp only at H
         have A32 := Aside0.mk A320
         clear A320
         obtain ⟨Ao33, co33, eo33⟩ := Kd.R_slice HO_4.out
         subst eo33
         go_wp2_with (first | (go_at_call 20; (with_reducible refine (impl_Merge.calls k2 _ _ t384 t393 _ ?side1 ?side2 A31.out).mono ?_); (case side1 => repeat (first | exact (Kd.R_reads' HO_4.out).2.2 | (with_reducible refine Kd.C_alloc ?_ _) | (with_reducible refine Kd.C_drewN ?_ _) | (with_reducible refine Kd.C_drew ?_))); (case side2 => exact (Kd.R_reads' HO_4.out).2.1); rintro e w34 ⟨v394, rfl, ho0, hb⟩; have HO395 := Aside0.mk (Kd.R_lower (Kd.R_new' (Kd.R_new' ho0 (Kd.R_lt (by (with_reducible repeat (first|apply rA|apply rN|apply rD)); exact HO_3.out))) (Kd.R_lt (by (with_reducible repeat (first|apply rA|apply rN|apply rD)); exact HO_4.out))) (below_size hB)); replace HO_3 := Aside0.mk (Kd.R_elder' (by (with_reducible repeat (first|apply rA|apply rN|apply rD)); exact HO_3.out) (Kd.R_base ho0) hb); replace HO_4 := Aside0.mk (Kd.R_elder' (by (with_reducible repeat (first|apply rA|apply rN|apply rD)); exact HO_4.out) (Kd.R_base ho0) hb); replace HB := Aside0.mk (below_step hB hb); (try clear hb); (try clear hb2); (try clear hk); (try clear hi); (try clear ho0); obtain ⟨Ao35, co35, eo35⟩ := Kd.R_slice HO395.out; subst eo35) | (go_at_call 34; (with_reducible refine (laws_sameList.calls k2 _ _ t393 _ _ t384 t396 _ ?side1 ?side2 ?side3 ?side4 A32.out).mono ?_); (case side1 => repeat (first | exact (Kd.R_reads' HO395.out).2.2 | (with_reducible refine Kd.C_alloc ?_ _) | (with_reducible refine Kd.C_drewN ?_ _) | (with_reducible refine Kd.C_drew ?_))); (case side2 => exact (Kd.R_reads' HO395.out).2.1); (case side3 => repeat (first | exact (Kd.R_reads' HO_4.out).2.2 | (with_reducible refine Kd.C_alloc ?_ _) | (with_reducible refine Kd.C_drewN ?_ _) | (with_reducible refine Kd.C_drew ?_))); (case side4 => exact (Kd.R_reads' HO_4.out).2.1); rintro e w36 ⟨rfl, hb⟩; replace HO_3 := Aside0.mk (Kd.R_below (by (with_reducible repeat (first|apply rA|apply rN|apply rD)); exact HO_3.out) hb); replace HO_4 := Aside0.mk (Kd.R_below (by (with_reducible repeat (first|apply rA|apply rN|apply rD)); exact HO_4.out) hb); replace HO395 := Aside0.mk (Kd.R_below (by (with_reducible repeat (first|apply rA|apply rN|apply rD)); exact HO395.out) hb); replace HB := Aside0.mk (below_step hB hb); (try clear hb); (try clear hb2); (try clear hk); (try clear hi); refine halt_ ?_; intro q_ hq_))
         obtain ⟨rfl⟩ := hq_
         by_cases c37 : t396 = true
         ·subst c37
          rw [if_pos rfl] at H
          replace H := Option.bind_eq_some_iff.mp H
          obtain ⟨t397, A380, H⟩ := H
          try dsimp only at H
          have A38 := Aside0.mk A380
          clear A380
          replace H := Option.bind_eq_some_iff.mp H
          obtain ⟨t400, A390, H⟩ := H
          try dsimp only at H
          have A39 := Aside0.mk A390
          clear A390
          have hr_ := Option.some.inj H
          go_wp2_with (first | (go_at_call 18; (with_reducible refine (spec_Merge.calls k2 _ _ t381 t397 _ ?side1 ?side2 A38.out).mono ?_); (case side1 => repeat (first | exact (Kd.R_reads' HO_3.out).2.2 | (with_reducible refine Kd.C_alloc ?_ _) | (with_reducible refine Kd.C_drewN ?_ _) | (with_reducible refine Kd.C_drew ?_))); (case side2 => exact (Kd.R_reads' HO_3.out).2.1); rintro e w40 ⟨v398, rfl, ho0, hb⟩; have HO399 := Aside0.mk (Kd.R_lower (Kd.R_new' (Kd.R_new' (Kd.R_new' ho0 (Kd.R_lt (by (with_reducible repeat (first|apply rA|apply rN|apply rD)); exact HO_3.out))) (Kd.R_lt (by (with_reducible repeat (first|apply rA|apply rN|apply rD)); exact HO_4.out))) (Kd.R_lt (by (with_reducible repeat (first|apply rA|apply rN|apply rD)); exact HO395.out))) (below_size hB)); replace HO_3 := Aside0.mk (Kd.R_elder' (by (with_reducible repeat (first|apply rA|apply rN|apply rD)); exact HO_3.out) (Kd.R_base ho0) hb); replace HO_4 := Aside0.mk (Kd.R_elder' (by (with_reducible repeat (first|apply rA|apply rN|apply rD)); exact HO_4.out) (Kd.R_base ho0) hb); replace HO395 := Aside0.mk (Kd.R_elder' (by (with_reducible repeat (first|apply rA|apply rN|apply rD)); exact HO395.out) (Kd.R_base ho0) hb); replace HB := Aside0.mk (below_step hB hb); (try clear hb); (try clear hb2); (try clear hk); (try clear hi); (try clear ho0); obtain ⟨Ao41, co41, eo41⟩ := Kd.R_slice HO399.out; subst eo41) | (go_at_call 34; (with_reducible refine (laws_sameList.calls k2 _ _ t384 _ _ t397 t400 _ ?side1 ?side2 ?side3 ?side4 A39.out).mono ?_); (case side1 => repeat (first | exact (Kd.R_reads' HO_4.out).2.2 | (with_reducible refine Kd.C_alloc ?_ _) | (with_reducible refine Kd.C_drewN ?_ _) | (with_reducible refine Kd.C_drew ?_))); (case side2 => exact (Kd.R_reads' HO_4.out).2.1); (case side3 => repeat (first | exact (Kd.R_reads' HO399.out).2.2 | (with_reducible refine Kd.C_alloc ?_ _) | (with_reducible refine Kd.C_drewN ?_ _) | (with_reducible refine Kd.C_drew ?_))); (case side4 => exact (Kd.R_reads' HO399.out).2.1); rintro e w42 ⟨rfl, hb⟩; replace HO_3 := Aside0.mk (Kd.R_below (by (with_reducible repeat (first|apply rA|apply rN|apply rD)); exact HO_3.out) hb); replace HO_4 := Aside0.mk (Kd.R_below (by (with_reducible repeat (first|apply rA|apply rN|apply rD)); exact HO_4.out) hb); replace HO395 := Aside0.mk (Kd.R_below (by (with_reducible repeat (first|apply rA|apply rN|apply rD)); exact HO395.out) hb); replace HO399 := Aside0.mk (Kd.R_below (by (with_reducible repeat (first|apply rA|apply rN|apply rD)); exact HO399.out) hb); replace HB := Aside0.mk (below_step hB hb); (try clear hb); (try clear hb2); (try clear hk); (try clear hi)))
          go_ret
          exact ⟨rE, hB⟩
         ·rw [if_neg c37] at H
          exact absurd H (by simp)
        ·rw [if_neg c30] at H
         have c30b0 : (x5_1.toList == x6_2.toList) = false := beq_eq_false_iff_ne.mpr c30
         have c30b1 : (x5_1.toList != x6_2.toList) = true := bne_iff_ne.mpr c30
         exact absurd (Option.some.inj H) (by simp)

/-- THE ONE PURE STATEMENT of laws_FnMerges: yours. -/
def laws_FnMerges.Pure : Prop := ∀ (l0 : List Int), l0.length ≤ maxLen → l0.length * 1 ≤ 140737488351232 → (∀ x ∈ l0, (Lit.int .u8 x).wf = true) → ∃ k, laws_FnMerges.f k l0 = some true
theorem laws_FnMerges.walk (P : laws_FnMerges.Pure) (a0 : Option Addr) (len0 cap0 : Nat) (z0 : List Int) (w : World) (w0 : (a0 = none ∧ len0 = 0 ∧ cap0 = 0 ∧ z0 = []) ∨ ∃ x, a0 = some x ∧ len0 ≤ cap0 ∧ cap0 ≤ maxLen ∧ z0.length = cap0 ∧ (∀ i, i < z0.length → w.cell? (x.add i) = some (.int .u8 (z0.getD i 0))) ∧ ∀ n ∈ z0, (Lit.int .u8 n).wf = true) (y0 : len0 * 1 ≤ 140737488351232) :
  Calls Try.prog 7 #[.slice a0 len0 cap0] w fun e w' => e = .returned (.bool true) ∧ Below w.heap.size w w' := by
 obtain ⟨l0, rfl, hr0, hm0, hw0, hc0⟩ := ReadsInt.ofRowC w0
 obtain ⟨k, h⟩ := P l0 hm0 y0 hw0
 refine (laws_FnMerges.calls k _ _ l0 true w (Kd.C_of_reads (d := (0 : Int)) (h1 := fun _ => rfl) hr0) hc0 h).mono ?_
 rintro e w' ⟨rfl, hd⟩
 exact ⟨rfl, hd⟩

end Go.Proofs.Ytdbinpeglamnnaa.PM
