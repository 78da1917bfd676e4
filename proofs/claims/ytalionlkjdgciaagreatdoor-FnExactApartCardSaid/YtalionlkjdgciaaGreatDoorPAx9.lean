-- Written by the session's program hprint.py, over the kit's print program. Lean checks it.
import Derived.Test.YtalionlkjdgciaaGreatDoorPAx0
import Derived.Test.YtalionlkjdgciaaGreatDoorPAx5
import Derived.Test.YtalionlkjdgciaaGreatDoorPAx6
import Derived.Test.YtalionlkjdgciaaGreatDoorPAx7
import Derived.Test.YtalionlkjdgciaaGreatDoorPAx8
namespace Go.Proofs.YtalionlkjdgciaaGreatDoor.PA
open Go.RowKit Go.Proofs.YtalionlkjdgciaaGreatDoorW.PrintWords Go.Proofs.YtalionlkjdgciaaGreatDoorW.PrintLast Go.Proofs.YtalionlkjdgciaaGreatDoorW.PrintMore
attribute [local go_sem] max2_int min2_int max_two min_two max_three min_three max_four min_four   -- for this text's walks alone
set_option linter.unusedVariables false
set_option linter.unusedSimpArgs false
set_option maxHeartbeats 8000000
set_option maxRecDepth 100000

/-! ### spec_l5One, its other ways -/
theorem spec_l5One.calls_2 (k : Nat) (a0_0 : Int) (a0_1 : ByteArray) (a0_2 : ByteArray) (a0_3 : ByteArray) (A0_4 : Option Addr) (c0_4 : Nat) (l0_4 : List (S73)) (A0_5 : Option Addr) (c0_5 : Nat) (l0_5 : List (S68)) (A0_6 : Option Addr) (c0_6 : Nat) (l0_6 : List (S28)) (a0_7 : ByteArray) (r : Bool) (w : World) (hr0_4 : Kd.C k73 w A0_4 l0_4.length l0_4) (hc0_4 : l0_4.length ≤ c0_4) (hr0_5 : Kd.C k68 w A0_5 l0_5.length l0_5) (hc0_5 : l0_5.length ≤ c0_5) (hr0_6 : Kd.C k28 w A0_6 l0_6.length l0_6) (hc0_6 : l0_6.length ≤ c0_6) (c4 : ¬ (a0_0 = 1)) (h : spec_l5One.f k a0_0 a0_1 a0_2 a0_3 l0_4 l0_5 l0_6 a0_7 = some r) :
  Calls Tryz.prog 86 #[.agg #[.int .i64 a0_0, .string a0_1, .string a0_2, .string a0_3, .slice A0_4 l0_4.length c0_4, .slice A0_5 l0_5.length c0_5, .slice A0_6 l0_6.length c0_6, .string a0_7]] w fun e w' => e = .returned (.bool r) ∧ Below w.heap.size w w' := by
 have hu28 := Tryz.underlying28
 have hu68 := Tryz.underlying68
 have HR0_4 := Aside0.mk hr0_4
 have HC0_4 := Aside0.mk hc0_4
 clear hr0_4 hc0_4
 have HR0_5 := Aside0.mk hr0_5
 have HC0_5 := Aside0.mk hc0_5
 clear hr0_5 hc0_5
 have HR0_6 := Aside0.mk hr0_6
 have HC0_6 := Aside0.mk hc0_6
 clear hr0_6 hc0_6
 have HB := Aside0.mk (Below.refl w.heap.size w)
 have H : (if a0_0 = 1 then ((spec_l5Pre.f k a0_1).bind fun t235 => (if t235 = true then ((spec_PlainOk.f k a0_2).bind fun t236 => (if t236 = true then (if a0_7.toList = ([] : List UInt8) then (if a0_1.toList = ([] : List UInt8) then ((spec_TextOk.f k a0_3).bind fun t237 => (if t237 = true then (if (a0_3.size : Int) > 40 then (spec_l5One.j0 k true a0_0 a0_1 a0_2 a0_3 l0_4 l0_5 l0_6 a0_7) else ((spec_DeclsOk.f k l0_4).bind fun t238 => (if t238 = true then (spec_l5One.j0 k (decide ((l0_5.length : Int) > 5)) a0_0 a0_1 a0_2 a0_3 l0_4 l0_5 l0_6 a0_7) else (spec_l5One.j0 k true a0_0 a0_1 a0_2 a0_3 l0_4 l0_5 l0_6 a0_7)))) else (spec_l5One.j0 k true a0_0 a0_1 a0_2 a0_3 l0_4 l0_5 l0_6 a0_7))) else (if a0_3.toList = ([] : List UInt8) then (spec_l5One.j0 k true a0_0 a0_1 a0_2 a0_3 l0_4 l0_5 l0_6 a0_7) else ((spec_TextOk.f k a0_3).bind fun t239 => (if t239 = true then (if (a0_3.size : Int) > 40 then (spec_l5One.j0 k true a0_0 a0_1 a0_2 a0_3 l0_4 l0_5 l0_6 a0_7) else ((spec_DeclsOk.f k l0_4).bind fun t240 => (if t240 = true then (spec_l5One.j0 k (decide ((l0_5.length : Int) > 5)) a0_0 a0_1 a0_2 a0_3 l0_4 l0_5 l0_6 a0_7) else (spec_l5One.j0 k true a0_0 a0_1 a0_2 a0_3 l0_4 l0_5 l0_6 a0_7)))) else (spec_l5One.j0 k true a0_0 a0_1 a0_2 a0_3 l0_4 l0_5 l0_6 a0_7))))) else (spec_l5One.j0 k true a0_0 a0_1 a0_2 a0_3 l0_4 l0_5 l0_6 a0_7)) else (spec_l5One.j0 k true a0_0 a0_1 a0_2 a0_3 l0_4 l0_5 l0_6 a0_7))) else (spec_l5One.j0 k true a0_0 a0_1 a0_2 a0_3 l0_4 l0_5 l0_6 a0_7))) else (if a0_0 = 2 then ((spec_l5Bare.f a0_0 a0_1 a0_2 a0_3 l0_4 l0_5 l0_6 a0_7).bind fun t246 => (if t246 = true then (if a0_2.toList = ([] : List UInt8) then (if a0_7.toList = ([] : List UInt8) then (some false) else ((spec_TextOk.f k a0_7).bind fun t247 => (some t247))) else (some false)) else (some false))) else (if a0_0 = 3 then ((spec_l5Bare.f a0_0 a0_1 a0_2 a0_3 l0_4 l0_5 l0_6 a0_7).bind fun t248 => (if t248 = true then (if a0_2.toList = ([] : List UInt8) then ((spec_TextOk.f k a0_7).bind fun t249 => (if t249 = true then ((spec_l5Has.f k a0_7 (⟨#[45, 45]⟩ : ByteArray)).bind fun t250 => (if t250 = true then (some false) else ((spec_l5Has.f k a0_7 (⟨#[13]⟩ : ByteArray)).bind fun t251 => (if t251 = true then (some false) else (if a0_7.toList = ([] : List UInt8) then (some true) else (if 0 ≤ (wrap64 ((a0_7.size : Int) - 1)) then (if (wrap64 ((a0_7.size : Int) - 1)) < (a0_7.size : Int) then (some ((bt a0_7 (wrap64 ((a0_7.size : Int) - 1))) != 45)) else (none)) else (none))))))) else (some false))) else (some false)) else (some false))) else (if a0_0 = 4 then ((spec_l5Bare.f a0_0 a0_1 a0_2 a0_3 l0_4 l0_5 l0_6 a0_7).bind fun t252 => (if t252 = true then ((spec_PlainOk.f k a0_2).bind fun t253 => (if t253 = true then ((spec_l5Xml.f a0_2).bind fun t254 => (if t254 = true then (some false) else ((spec_TextOk.f k a0_7).bind fun t255 => (if t255 = true then ((spec_l5Has.f k a0_7 (⟨#[63, 62]⟩ : ByteArray)).bind fun t256 => (if t256 = true then (some false) else ((spec_l5Has.f k a0_7 (⟨#[13]⟩ : ByteArray)).bind fun t257 => (if t257 = true then (some false) else (if a0_7.toList = ([] : List UInt8) then (some true) else (if 0 < (a0_7.size : Int) then ((spec_IsBlank.f (wrap64 (bt a0_7 0))).bind fun t258 => (some (!t258))) else (none))))))) else (some false))))) else (some false))) else (some false))) else (some false))))) = some r := h
 clear h
 go_enter Tryz.func86, Tryz.ntmps86
 go_wp2_with (first | ((with_reducible refine gate_dst (N := 1) rfl ?_); (try (refine gate_guard (by rfl) ?_; dsimp only)); refine box_event ?hg (N := 1) ?hd (cs := #[.int .i64 a0_0, .string a0_1, .string a0_2, .string a0_3, .slice A0_4 l0_4.length c0_4, .slice A0_5 l0_5.length c0_5, .slice A0_6 l0_6.length c0_6, .string a0_7]) (t := 28) ?hr ?_; (case hd => rfl); (case hg => rfl); (case hr => first | (go_simp; done) | (go_simp; rfl)); intro gb234 hg w2 hbox hb; have BK234 := Aside0.mk (hbox); have GW234 := Aside0.mk ((by rw [hg]; exact (below_size hB) : w.heap.size ≤ gb234)); have GE234 := Aside0.mk ((by rw [hg]; exact (below_size hB) : w.heap.size ≤ gb234)); replace HB := Aside0.mk (below_step hB hb); clear hb hbox hg; obtain ⟨hcz3_0, hcz3_1, hcz3_2, hcz3_3, hcz3_4, hcz3_5, hcz3_6, hcz3_7⟩ := bc8 BK234.out; refine halt_ ?_; intro q_ hq_))
 obtain ⟨rfl⟩ := hq_
 rw [if_neg c4] at H
 obtain ⟨c4b0, c4b1⟩ := eqF c4
 by_cases c61 : a0_0 = 2
 ·rw [if_pos c61] at H
  obtain ⟨c61b0, c61b1⟩ := eqT c61
  clear c61
  (first | rw [c61b0] | (simp only [i64_w, i32_w]; rw [c61b0]) | skip)
  replace H := Option.bind_eq_some_iff.mp H
  obtain ⟨t246, A620, H⟩ := H
  try dsimp only at H
  have A62 := Aside0.mk A620
  clear A620
  obtain ⟨hcz63_0, hcz63_1, hcz63_2, hcz63_3, hcz63_4, hcz63_5, hcz63_6, hcz63_7⟩ := bc8 BK234.out
  go_wp2_with (first | ((with_reducible refine gate_callee (f := 123) rfl ?_); refine goesL_ (some 93) rfl rfl Tryz.func123 (by kernel_rfl) rfl #[.agg #[.int .i64 a0_0, .string a0_1, .string a0_2, .string a0_3, .slice A0_4 l0_4.length c0_4, .slice A0_5 l0_5.length c0_5, .slice A0_6 l0_6.length c0_6, .string a0_7]] rfl mA ?_; (with_reducible refine (spec_l5Bare.calls a0_0 a0_1 a0_2 a0_3 _ _ l0_4 _ _ l0_5 _ _ l0_6 a0_7 t246 _ ?side1 ?side2 ?side3 ?side4 ?side5 ?side6 A62.out).mono ?_); (case side1 => repeat (first | exact (Kd.C_below HR0_4.out HB.out) | (with_reducible refine Kd.C_alloc ?_ _) | (with_reducible refine Kd.C_drewN ?_ _) | (with_reducible refine Kd.C_drew ?_))); (case side2 => exact HC0_4.out); (case side3 => repeat (first | exact (Kd.C_below HR0_5.out HB.out) | (with_reducible refine Kd.C_alloc ?_ _) | (with_reducible refine Kd.C_drewN ?_ _) | (with_reducible refine Kd.C_drew ?_))); (case side4 => exact HC0_5.out); (case side5 => repeat (first | exact (Kd.C_below HR0_6.out HB.out) | (with_reducible refine Kd.C_alloc ?_ _) | (with_reducible refine Kd.C_drewN ?_ _) | (with_reducible refine Kd.C_drew ?_))); (case side6 => exact HC0_6.out); rintro e w64 ⟨rfl, hb⟩; refine ⟨_, rfl, ?_⟩; replace BK234 := Aside0.mk (blk_below (g := gb234) (by (with_reducible repeat (first | refine bN ?_ _|refine bD ?_|refine bA ?_ _)); exact BK234.out) hb); replace HB := Aside0.mk (below_step hB hb); (try clear hb); (try clear hb2); (try clear hk); (try clear hi); refine halt_ ?_; intro q_ hq_))
  obtain ⟨rfl⟩ := hq_
  by_cases c65 : t246 = true
  ·subst c65
   rw [if_pos rfl] at H
   by_cases c66 : a0_2.toList = ([] : List UInt8)
   ·rw [if_pos c66] at H
    obtain ⟨c66b0, c66b1⟩ := eqT c66
    clear c66
    by_cases c67 : a0_7.toList = ([] : List UInt8)
    ·rw [if_pos c67] at H
     obtain ⟨c67b0, c67b1⟩ := eqT c67
     clear c67
     obtain rfl := Option.some.inj H
     obtain ⟨hcz68_0, hcz68_1, hcz68_2, hcz68_3, hcz68_4, hcz68_5, hcz68_6, hcz68_7⟩ := bc8 BK234.out
     go_wp2
     go_ret
     exact ⟨rE, hB⟩
    ·rw [if_neg c67] at H
     obtain ⟨c67b0, c67b1⟩ := eqF c67
     replace H := Option.bind_eq_some_iff.mp H
     obtain ⟨t247, A690, H⟩ := H
     try dsimp only at H
     have A69 := Aside0.mk A690
     clear A690
     obtain rfl := Option.some.inj H
     obtain ⟨hcz70_0, hcz70_1, hcz70_2, hcz70_3, hcz70_4, hcz70_5, hcz70_6, hcz70_7⟩ := bc8 BK234.out
     go_wp2_with (first | (go_at_call 120; (with_reducible refine (spec_TextOk.calls k a0_7 t247 _ A69.out).mono ?_); rintro e w' ⟨rfl, ⟨nd, rfl⟩⟩))
     go_ret
     exact ⟨rE, hB⟩
   ·rw [if_neg c66] at H
    obtain ⟨c66b0, c66b1⟩ := eqF c66
    obtain rfl := Option.some.inj H
    obtain ⟨hcz71_0, hcz71_1, hcz71_2, hcz71_3, hcz71_4, hcz71_5, hcz71_6, hcz71_7⟩ := bc8 BK234.out
    go_wp2
    go_ret
    exact ⟨rE, hB⟩
  ·replace c65 := Bool.eq_false_iff.mpr c65
   subst c65
   rw [if_neg (show ¬ (false = true) by decide)] at H
   obtain rfl := Option.some.inj H
   go_wp2
   go_ret
   exact ⟨rE, hB⟩
 ·rw [if_neg c61] at H
  obtain ⟨c61b0, c61b1⟩ := eqF c61
  (first | rw [c61b0] | (simp only [i64_w, i32_w]; rw [c61b0]) | skip)
  by_cases c72 : a0_0 = 3
  ·rw [if_pos c72] at H
   obtain ⟨c72b0, c72b1⟩ := eqT c72
   clear c72
   replace H := Option.bind_eq_some_iff.mp H
   obtain ⟨t248, A730, H⟩ := H
   try dsimp only at H
   have A73 := Aside0.mk A730
   clear A730
   obtain ⟨hcz74_0, hcz74_1, hcz74_2, hcz74_3, hcz74_4, hcz74_5, hcz74_6, hcz74_7⟩ := bc8 BK234.out
   go_wp2_with (first | ((with_reducible refine gate_callee (f := 123) rfl ?_); refine goesL_ (some 112) rfl rfl Tryz.func123 (by kernel_rfl) rfl #[.agg #[.int .i64 a0_0, .string a0_1, .string a0_2, .string a0_3, .slice A0_4 l0_4.length c0_4, .slice A0_5 l0_5.length c0_5, .slice A0_6 l0_6.length c0_6, .string a0_7]] rfl mA ?_; (with_reducible refine (spec_l5Bare.calls a0_0 a0_1 a0_2 a0_3 _ _ l0_4 _ _ l0_5 _ _ l0_6 a0_7 t248 _ ?side1 ?side2 ?side3 ?side4 ?side5 ?side6 A73.out).mono ?_); (case side1 => repeat (first | exact (Kd.C_below HR0_4.out HB.out) | (with_reducible refine Kd.C_alloc ?_ _) | (with_reducible refine Kd.C_drewN ?_ _) | (with_reducible refine Kd.C_drew ?_))); (case side2 => exact HC0_4.out); (case side3 => repeat (first | exact (Kd.C_below HR0_5.out HB.out) | (with_reducible refine Kd.C_alloc ?_ _) | (with_reducible refine Kd.C_drewN ?_ _) | (with_reducible refine Kd.C_drew ?_))); (case side4 => exact HC0_5.out); (case side5 => repeat (first | exact (Kd.C_below HR0_6.out HB.out) | (with_reducible refine Kd.C_alloc ?_ _) | (with_reducible refine Kd.C_drewN ?_ _) | (with_reducible refine Kd.C_drew ?_))); (case side6 => exact HC0_6.out); rintro e w75 ⟨rfl, hb⟩; refine ⟨_, rfl, ?_⟩; replace BK234 := Aside0.mk (blk_below (g := gb234) (by (with_reducible repeat (first | refine bN ?_ _|refine bD ?_|refine bA ?_ _)); exact BK234.out) hb); replace HB := Aside0.mk (below_step hB hb); (try clear hb); (try clear hb2); (try clear hk); (try clear hi); refine halt_ ?_; intro q_ hq_))
   obtain ⟨rfl⟩ := hq_
   by_cases c76 : t248 = true
   ·subst c76
    rw [if_pos rfl] at H
    by_cases c77 : a0_2.toList = ([] : List UInt8)
    ·rw [if_pos c77] at H
     obtain ⟨c77b0, c77b1⟩ := eqT c77
     clear c77
     replace H := Option.bind_eq_some_iff.mp H
     obtain ⟨t249, A780, H⟩ := H
     try dsimp only at H
     have A78 := Aside0.mk A780
     clear A780
     obtain ⟨hcz79_0, hcz79_1, hcz79_2, hcz79_3, hcz79_4, hcz79_5, hcz79_6, hcz79_7⟩ := bc8 BK234.out
     go_wp2_with (first | (go_at_call 120; (with_reducible refine (spec_TextOk.calls k a0_7 t249 _ A78.out).mono ?_); rintro e w' ⟨rfl, ⟨nd, rfl⟩⟩; refine halt_ ?_; intro q_ hq_))
     obtain ⟨rfl⟩ := hq_
     by_cases c80 : t249 = true
     ·subst c80
      rw [if_pos rfl] at H
      replace H := Option.bind_eq_some_iff.mp H
      obtain ⟨t250, A810, H⟩ := H
      try dsimp only at H
      have A81 := Aside0.mk A810
      clear A810
      obtain ⟨hcz82_0, hcz82_1, hcz82_2, hcz82_3, hcz82_4, hcz82_5, hcz82_6, hcz82_7⟩ := bc8 BK234.out
      go_wp2_with (first | (go_at_call 124; (with_reducible refine (spec_l5Has.calls k a0_7 (⟨#[45, 45]⟩ : ByteArray) t250 _ A81.out).mono ?_); rintro e w' ⟨rfl, ⟨nd, rfl⟩⟩; refine halt_ ?_; intro q_ hq_))
      obtain ⟨rfl⟩ := hq_
      by_cases c83 : t250 = true
      ·subst c83
       rw [if_pos rfl] at H
       obtain rfl := Option.some.inj H
       go_wp2
       go_ret
       exact ⟨rE, hB⟩
      ·replace c83 := Bool.eq_false_iff.mpr c83
       subst c83
       rw [if_neg (show ¬ (false = true) by decide)] at H
       replace H := Option.bind_eq_some_iff.mp H
       obtain ⟨t251, A840, H⟩ := H
       try dsimp only at H
       have A84 := Aside0.mk A840
       clear A840
       obtain ⟨hcz85_0, hcz85_1, hcz85_2, hcz85_3, hcz85_4, hcz85_5, hcz85_6, hcz85_7⟩ := bc8 BK234.out
       go_wp2_with (first | (go_at_call 124; (with_reducible refine (spec_l5Has.calls k a0_7 (⟨#[13]⟩ : ByteArray) t251 _ A84.out).mono ?_); rintro e w' ⟨rfl, ⟨nd, rfl⟩⟩; refine halt_ ?_; intro q_ hq_))
       obtain ⟨rfl⟩ := hq_
       by_cases c86 : t251 = true
       ·subst c86
        rw [if_pos rfl] at H
        obtain rfl := Option.some.inj H
        go_wp2
        go_ret
        exact ⟨rE, hB⟩
       ·replace c86 := Bool.eq_false_iff.mpr c86
        subst c86
        rw [if_neg (show ¬ (false = true) by decide)] at H
        by_cases c87 : a0_7.toList = ([] : List UInt8)
        ·rw [if_pos c87] at H
         obtain ⟨c87b0, c87b1⟩ := eqT c87
         clear c87
         obtain rfl := Option.some.inj H
         obtain ⟨hcz88_0, hcz88_1, hcz88_2, hcz88_3, hcz88_4, hcz88_5, hcz88_6, hcz88_7⟩ := bc8 BK234.out
         go_wp2
         go_ret
         exact ⟨rE, hB⟩
        ·rw [if_neg c87] at H
         obtain ⟨c87b0, c87b1⟩ := eqF c87
         obtain ⟨ji89, hji89⟩ : ∃ j_ : Int, (wrap64 ((a0_7.size : Int) - 1)) = j_ := ⟨_, rfl⟩
         replace H : (if 0 ≤ (ji89) then (if (ji89) < (a0_7.size : Int) then (some ((bt a0_7 (ji89)) != 45)) else (none)) else (none)) = some r := by first | (rw [hji89] at H; exact H) | (simp only [hji89] at H ⊢; exact H)
         have hji89w : (IntKind.i64.wrap ((a0_7.size : Int) - 1)) = ji89 := (i64_w _).trans hji89
         obtain ⟨c90, H⟩ := if_som H
         have c90b0 : decide (0 ≤ (ji89)) = true := decide_eq_true c90
         clear c90
         obtain ⟨c91, H⟩ := if_som H
         have c91b0 : decide ((ji89) < (a0_7.size : Int)) = true := decide_eq_true c91
         clear c91
         obtain rfl := Option.some.inj H
         obtain ⟨hcz93_0, hcz93_1, hcz93_2, hcz93_3, hcz93_4, hcz93_5, hcz93_6, hcz93_7⟩ := bc8 BK234.out
         have p92 : 0 ≤ ((ji89) : Int) := odt
         have q92 : (ji89) < (a0_7.size : Int) := odt
         have hx92 := bt_at a0_7 (ji89)
         replace p92 := eq_true p92
         replace q92 := eq_true q92
         go_wp2
         go_ret
         exact ⟨by first | rfl | (simp [errW_none, errW_some] <;> rfl) | (simp only [← hji89]; first | rfl | (simp [errW_none, errW_some] <;> rfl)) | (simp [*, errW_none, errW_some] <;> rfl), hB⟩
     ·replace c80 := Bool.eq_false_iff.mpr c80
      subst c80
      rw [if_neg (show ¬ (false = true) by decide)] at H
      obtain rfl := Option.some.inj H
      go_wp2
      go_ret
      exact ⟨rE, hB⟩
    ·rw [if_neg c77] at H
     obtain ⟨c77b0, c77b1⟩ := eqF c77
     obtain rfl := Option.some.inj H
     obtain ⟨hcz94_0, hcz94_1, hcz94_2, hcz94_3, hcz94_4, hcz94_5, hcz94_6, hcz94_7⟩ := bc8 BK234.out
     go_wp2
     go_ret
     exact ⟨rE, hB⟩
   ·replace c76 := Bool.eq_false_iff.mpr c76
    subst c76
    rw [if_neg (show ¬ (false = true) by decide)] at H
    obtain rfl := Option.some.inj H
    go_wp2
    go_ret
    exact ⟨rE, hB⟩
  ·rw [if_neg c72] at H
   obtain ⟨c72b0, c72b1⟩ := eqF c72
   by_cases c95 : a0_0 = 4
   ·rw [if_pos c95] at H
    obtain ⟨c95b0, c95b1⟩ := eqT c95
    clear c95
    replace H := Option.bind_eq_some_iff.mp H
    obtain ⟨t252, A960, H⟩ := H
    try dsimp only at H
    have A96 := Aside0.mk A960
    clear A960
    obtain ⟨hcz97_0, hcz97_1, hcz97_2, hcz97_3, hcz97_4, hcz97_5, hcz97_6, hcz97_7⟩ := bc8 BK234.out
    go_wp2_with (first | ((with_reducible refine gate_callee (f := 123) rfl ?_); refine goesL_ (some 153) rfl rfl Tryz.func123 (by kernel_rfl) rfl #[.agg #[.int .i64 a0_0, .string a0_1, .string a0_2, .string a0_3, .slice A0_4 l0_4.length c0_4, .slice A0_5 l0_5.length c0_5, .slice A0_6 l0_6.length c0_6, .string a0_7]] rfl mA ?_; (with_reducible refine (spec_l5Bare.calls a0_0 a0_1 a0_2 a0_3 _ _ l0_4 _ _ l0_5 _ _ l0_6 a0_7 t252 _ ?side1 ?side2 ?side3 ?side4 ?side5 ?side6 A96.out).mono ?_); (case side1 => repeat (first | exact (Kd.C_below HR0_4.out HB.out) | (with_reducible refine Kd.C_alloc ?_ _) | (with_reducible refine Kd.C_drewN ?_ _) | (with_reducible refine Kd.C_drew ?_))); (case side2 => exact HC0_4.out); (case side3 => repeat (first | exact (Kd.C_below HR0_5.out HB.out) | (with_reducible refine Kd.C_alloc ?_ _) | (with_reducible refine Kd.C_drewN ?_ _) | (with_reducible refine Kd.C_drew ?_))); (case side4 => exact HC0_5.out); (case side5 => repeat (first | exact (Kd.C_below HR0_6.out HB.out) | (with_reducible refine Kd.C_alloc ?_ _) | (with_reducible refine Kd.C_drewN ?_ _) | (with_reducible refine Kd.C_drew ?_))); (case side6 => exact HC0_6.out); rintro e w98 ⟨rfl, hb⟩; refine ⟨_, rfl, ?_⟩; replace BK234 := Aside0.mk (blk_below (g := gb234) (by (with_reducible repeat (first | refine bN ?_ _|refine bD ?_|refine bA ?_ _)); exact BK234.out) hb); replace HB := Aside0.mk (below_step hB hb); (try clear hb); (try clear hb2); (try clear hk); (try clear hi); refine halt_ ?_; intro q_ hq_))
    obtain ⟨rfl⟩ := hq_
    by_cases c99 : t252 = true
    ·subst c99
     rw [if_pos rfl] at H
     replace H := Option.bind_eq_some_iff.mp H
     obtain ⟨t253, A1000, H⟩ := H
     try dsimp only at H
     have A100 := Aside0.mk A1000
     clear A1000
     obtain ⟨hcz101_0, hcz101_1, hcz101_2, hcz101_3, hcz101_4, hcz101_5, hcz101_6, hcz101_7⟩ := bc8 BK234.out
     go_wp2_with (first | (go_at_call 119; (with_reducible refine (spec_PlainOk.calls k a0_2 t253 _ A100.out).mono ?_); rintro e w102 ⟨rfl, hb⟩; replace BK234 := Aside0.mk (blk_below (g := gb234) (by (with_reducible repeat (first | refine bN ?_ _|refine bD ?_|refine bA ?_ _)); exact BK234.out) hb); replace HB := Aside0.mk (below_step hB hb); (try clear hb); (try clear hb2); (try clear hk); (try clear hi); refine halt_ ?_; intro q_ hq_))
     obtain ⟨rfl⟩ := hq_
     by_cases c103 : t253 = true
     ·subst c103
      rw [if_pos rfl] at H
      replace H := Option.bind_eq_some_iff.mp H
      obtain ⟨t254, A1040, H⟩ := H
      try dsimp only at H
      have A104 := Aside0.mk A1040
      clear A1040
      obtain ⟨hcz105_0, hcz105_1, hcz105_2, hcz105_3, hcz105_4, hcz105_5, hcz105_6, hcz105_7⟩ := bc8 BK234.out
      go_wp2_with (first | (go_at_call 125; (with_reducible refine (spec_l5Xml.calls a0_2 t254 _ A104.out).mono ?_); rintro e w' ⟨rfl, ⟨nd, rfl⟩⟩; refine halt_ ?_; intro q_ hq_))
      obtain ⟨rfl⟩ := hq_
      by_cases c106 : t254 = true
      ·subst c106
       rw [if_pos rfl] at H
       obtain rfl := Option.some.inj H
       go_wp2
       go_ret
       exact ⟨rE, hB⟩
      ·replace c106 := Bool.eq_false_iff.mpr c106
       subst c106
       rw [if_neg (show ¬ (false = true) by decide)] at H
       replace H := Option.bind_eq_some_iff.mp H
       obtain ⟨t255, A1070, H⟩ := H
       try dsimp only at H
       have A107 := Aside0.mk A1070
       clear A1070
       obtain ⟨hcz108_0, hcz108_1, hcz108_2, hcz108_3, hcz108_4, hcz108_5, hcz108_6, hcz108_7⟩ := bc8 BK234.out
       go_wp2_with (first | (go_at_call 120; (with_reducible refine (spec_TextOk.calls k a0_7 t255 _ A107.out).mono ?_); rintro e w' ⟨rfl, ⟨nd, rfl⟩⟩; refine halt_ ?_; intro q_ hq_))
       obtain ⟨rfl⟩ := hq_
       by_cases c109 : t255 = true
       ·subst c109
        rw [if_pos rfl] at H
        replace H := Option.bind_eq_some_iff.mp H
        obtain ⟨t256, A1100, H⟩ := H
        try dsimp only at H
        have A110 := Aside0.mk A1100
        clear A1100
        obtain ⟨hcz111_0, hcz111_1, hcz111_2, hcz111_3, hcz111_4, hcz111_5, hcz111_6, hcz111_7⟩ := bc8 BK234.out
        go_wp2_with (first | (go_at_call 124; (with_reducible refine (spec_l5Has.calls k a0_7 (⟨#[63, 62]⟩ : ByteArray) t256 _ A110.out).mono ?_); rintro e w' ⟨rfl, ⟨nd, rfl⟩⟩; refine halt_ ?_; intro q_ hq_))
        obtain ⟨rfl⟩ := hq_
        by_cases c112 : t256 = true
        ·subst c112
         rw [if_pos rfl] at H
         obtain rfl := Option.some.inj H
         go_wp2
         go_ret
         exact ⟨rE, hB⟩
        ·replace c112 := Bool.eq_false_iff.mpr c112
         subst c112
         rw [if_neg (show ¬ (false = true) by decide)] at H
         replace H := Option.bind_eq_some_iff.mp H
         obtain ⟨t257, A1130, H⟩ := H
         try dsimp only at H
         have A113 := Aside0.mk A1130
         clear A1130
         obtain ⟨hcz114_0, hcz114_1, hcz114_2, hcz114_3, hcz114_4, hcz114_5, hcz114_6, hcz114_7⟩ := bc8 BK234.out
         go_wp2_with (first | (go_at_call 124; (with_reducible refine (spec_l5Has.calls k a0_7 (⟨#[13]⟩ : ByteArray) t257 _ A113.out).mono ?_); rintro e w' ⟨rfl, ⟨nd, rfl⟩⟩; refine halt_ ?_; intro q_ hq_))
         obtain ⟨rfl⟩ := hq_
         by_cases c115 : t257 = true
         ·subst c115
          rw [if_pos rfl] at H
          obtain rfl := Option.some.inj H
          go_wp2
          go_ret
          exact ⟨rE, hB⟩
         ·replace c115 := Bool.eq_false_iff.mpr c115
          subst c115
          rw [if_neg (show ¬ (false = true) by decide)] at H
          by_cases c116 : a0_7.toList = ([] : List UInt8)
          ·rw [if_pos c116] at H
           obtain ⟨c116b0, c116b1⟩ := eqT c116
           clear c116
           obtain rfl := Option.some.inj H
           obtain ⟨hcz117_0, hcz117_1, hcz117_2, hcz117_3, hcz117_4, hcz117_5, hcz117_6, hcz117_7⟩ := bc8 BK234.out
           go_wp2
           go_ret
           exact ⟨rE, hB⟩
          ·rw [if_neg c116] at H
           obtain ⟨c116b0, c116b1⟩ := eqF c116
           obtain ⟨c118, H⟩ := if_som H
           have c118b0 : decide (0 < (a0_7.size : Int)) = true := decide_eq_true c118
           have c118b1 : decide (0 < a0_7.size) = true := decide_eq_true (by omega)
           clear c118
           replace H := Option.bind_eq_some_iff.mp H
           obtain ⟨t258, A1200, H⟩ := H
           try dsimp only at H
           have A120 := Aside0.mk A1200
           clear A1200
           obtain rfl := Option.some.inj H
           obtain ⟨hcz121_0, hcz121_1, hcz121_2, hcz121_3, hcz121_4, hcz121_5, hcz121_6, hcz121_7⟩ := bc8 BK234.out
           have p119 : 0 ≤ (0 : Int) := (by omega)
           have q119 : 0 < a0_7.size := (by have : (0 : Int) < (a0_7.size : Int) := odt; omega)
           have hx119 : ∀ h : 0 < a0_7.size, ((a0_7[0]'h).toNat : Int) = bt a0_7 0 := bt_at a0_7 0
           clear p119
           have qi119 : (0 < (a0_7.size : Int)) = True := eq_true (odt)
           replace q119 := eq_true q119
           go_wp2_with (first | (go_at_call 126; (with_reducible refine (spec_IsBlank.calls (wrap64 (bt a0_7 0)) t258 _ A120.out).mono ?_); rintro e w' ⟨rfl, ⟨nd, rfl⟩⟩))
           go_ret
           exact ⟨rE, hB⟩
       ·replace c109 := Bool.eq_false_iff.mpr c109
        subst c109
        rw [if_neg (show ¬ (false = true) by decide)] at H
        obtain rfl := Option.some.inj H
        go_wp2
        go_ret
        exact ⟨rE, hB⟩
     ·replace c103 := Bool.eq_false_iff.mpr c103
      subst c103
      rw [if_neg (show ¬ (false = true) by decide)] at H
      obtain rfl := Option.some.inj H
      go_wp2
      go_ret
      exact ⟨rE, hB⟩
    ·replace c99 := Bool.eq_false_iff.mpr c99
     subst c99
     rw [if_neg (show ¬ (false = true) by decide)] at H
     obtain rfl := Option.some.inj H
     go_wp2
     go_ret
     exact ⟨rE, hB⟩
   ·rw [if_neg c95] at H
    obtain ⟨c95b0, c95b1⟩ := eqF c95
    obtain rfl := Option.some.inj H
    go_wp2
    go_ret
    exact ⟨rE, hB⟩
theorem spec_l5One.calls (k : Nat) (a0_0 : Int) (a0_1 : ByteArray) (a0_2 : ByteArray) (a0_3 : ByteArray) (A0_4 : Option Addr) (c0_4 : Nat) (l0_4 : List (S73)) (A0_5 : Option Addr) (c0_5 : Nat) (l0_5 : List (S68)) (A0_6 : Option Addr) (c0_6 : Nat) (l0_6 : List (S28)) (a0_7 : ByteArray) (r : Bool) (w : World) (hr0_4 : Kd.C k73 w A0_4 l0_4.length l0_4) (hc0_4 : l0_4.length ≤ c0_4) (hr0_5 : Kd.C k68 w A0_5 l0_5.length l0_5) (hc0_5 : l0_5.length ≤ c0_5) (hr0_6 : Kd.C k28 w A0_6 l0_6.length l0_6) (hc0_6 : l0_6.length ≤ c0_6) (h : spec_l5One.f k a0_0 a0_1 a0_2 a0_3 l0_4 l0_5 l0_6 a0_7 = some r) :
  Calls Tryz.prog 86 #[.agg #[.int .i64 a0_0, .string a0_1, .string a0_2, .string a0_3, .slice A0_4 l0_4.length c0_4, .slice A0_5 l0_5.length c0_5, .slice A0_6 l0_6.length c0_6, .string a0_7]] w fun e w' => e = .returned (.bool r) ∧ Below w.heap.size w w' := by
 by_cases c4 : a0_0 = 1
 · exact spec_l5One.calls_1 k a0_0 a0_1 a0_2 a0_3 A0_4 c0_4 l0_4 A0_5 c0_5 l0_5 A0_6 c0_6 l0_6 a0_7 r w hr0_4 hc0_4 hr0_5 hc0_5 hr0_6 hc0_6 c4 h
 · exact spec_l5One.calls_2 k a0_0 a0_1 a0_2 a0_3 A0_4 c0_4 l0_4 A0_5 c0_5 l0_5 A0_6 c0_6 l0_6 a0_7 r w hr0_4 hc0_4 hr0_5 hc0_5 hr0_6 hc0_6 c4 h

/-! ### spec_l5Kids: function 46 -/
mutual
def spec_l5Kids.l0 : Nat → List (S28) → Int → Int → Option (Bool)
 | 0, _, _, _ => none
 | k + 1, x0, x1, x5 => if x5 < (x0.length : Int) then (if 0 ≤ x5 then ((spec_l5One.f k ((rd_T28 x0 x5).f0) ((rd_T28 x0 x5).f1) ((rd_T28 x0 x5).f2) ((rd_T28 x0 x5).f3) ((rd_T28 x0 x5).f4) ((rd_T28 x0 x5).f5) ((rd_T28 x0 x5).f6) ((rd_T28 x0 x5).f7)).bind fun t261 => (if t261 = true then (if ((rd_T28 x0 x5).f0) = 2 then (if x5 > 0 then (if 0 ≤ (wrap64 (x5 - 1)) then (if (wrap64 (x5 - 1)) < (x0.length : Int) then (spec_l5Kids.j1 k x0 x1 x5 (((rd_T28 x0 (wrap64 (x5 - 1))).f0) == 2) ((rd_T28 x0 x5).f0) ((rd_T28 x0 x5).f1) ((rd_T28 x0 x5).f2) ((rd_T28 x0 x5).f3) ((rd_T28 x0 x5).f4) ((rd_T28 x0 x5).f5) ((rd_T28 x0 x5).f6) ((rd_T28 x0 x5).f7)) else (none)) else (none)) else (spec_l5Kids.j1 k x0 x1 x5 false ((rd_T28 x0 x5).f0) ((rd_T28 x0 x5).f1) ((rd_T28 x0 x5).f2) ((rd_T28 x0 x5).f3) ((rd_T28 x0 x5).f4) ((rd_T28 x0 x5).f5) ((rd_T28 x0 x5).f6) ((rd_T28 x0 x5).f7))) else (spec_l5Kids.j1 k x0 x1 x5 false ((rd_T28 x0 x5).f0) ((rd_T28 x0 x5).f1) ((rd_T28 x0 x5).f2) ((rd_T28 x0 x5).f3) ((rd_T28 x0 x5).f4) ((rd_T28 x0 x5).f5) ((rd_T28 x0 x5).f6) ((rd_T28 x0 x5).f7))) else (spec_l5Kids.j1 k x0 x1 x5 true ((rd_T28 x0 x5).f0) ((rd_T28 x0 x5).f1) ((rd_T28 x0 x5).f2) ((rd_T28 x0 x5).f3) ((rd_T28 x0 x5).f4) ((rd_T28 x0 x5).f5) ((rd_T28 x0 x5).f6) ((rd_T28 x0 x5).f7)))) else (none)) else (some true)
def spec_l5Kids.j1 : Nat → List (S28) → Int → Int → Bool → Int → ByteArray → ByteArray → ByteArray → List (S73) → List (S68) → List (S28) → ByteArray → Option (Bool)
 | 0, _, _, _, _, _, _, _, _, _, _, _, _ => none
 | k + 1, x0, x1, x5, x37, x261000, x261001, x261002, x261003, x261004, x261005, x261006, x261007 => if x37 = true then (some false) else (if x261000 = 1 then (if x1 = 7 then (some false) else ((spec_l5Kids.f k x261006 (wrap64 (x1 + 1))).bind fun t263 => (if t263 = true then (spec_l5Kids.l0 k x0 x1 (wrap64 (x5 + 1))) else (some false)))) else (spec_l5Kids.l0 k x0 x1 (wrap64 (x5 + 1))))
def spec_l5Kids.f : Nat → List (S28) → Int → Option (Bool)
 | 0, _, _ => none
 | k + 1, l0, a1 => spec_l5Kids.l0 k l0 a1 0
end
theorem spec_l5Kids.calls (k : Nat) : ∀ (A0 : Option Addr) (c0 : Nat) (l0 : List (S28)) (a1 : Int) (r : Bool) (w : World) (hr0 : Kd.C k28 w A0 l0.length l0) (hc0 : l0.length ≤ c0) (h : spec_l5Kids.f k l0 a1 = some r),
  Calls Tryz.prog 46 #[.slice A0 l0.length c0, .int .i64 a1] w fun e w' => e = .returned (.bool r) ∧ Below w.heap.size w w' := by
 induction k using Nat.strongRecOn with
 | _ k ih =>
 intro A0 c0 l0 a1 r w hr0 hc0 h
 cases k with
 | zero => exact absurd h (by simp [spec_l5Kids.f])
 | succ k =>
 simp only [spec_l5Kids.f] at h
 have hu28 := Tryz.underlying28
 have HR0 := Aside0.mk hr0
 have HC0 := Aside0.mk hc0
 clear hr0 hc0
 have HB := Aside0.mk (Below.refl w.heap.size w)
 have H : (spec_l5Kids.l0 k l0 a1 0) = some r := h
 clear h
 have H' := Aside0.mk H
 clear H
 go_enter Tryz.func46, Tryz.ntmps46
 go_wp2
 go_loopg [5] k (fun kq v5 w' => ∃ (x5_1 : Int), v5 = .int .i64 x5_1 ∧ Aside0 (spec_l5Kids.l0 kq l0 a1 x5_1 = some r) ∧ Aside0 (kq ≤ k) ∧ Aside0 (Below w.heap.size w w'))
 case atStart => exact ⟨(0), rG, H', ⟨Nat.le_refl _⟩, ⟨hB⟩⟩
 case round =>
  clear H'
  obtain ⟨x5_1, rfl, HA, HK1, HB⟩ := hrel
  cases gk with
  | zero => exact absurd HA.out (by simp [spec_l5Kids.l0])
  | succ k1 =>
   have H := HA.out
   clear HA
   simp only [spec_l5Kids.l0] at H
   by_cases c3 : x5_1 < (l0.length : Int)
   ·rw [if_pos c3] at H
    have c3b0 : decide (x5_1 < (l0.length : Int)) = true := decide_eq_true c3
    clear c3
    obtain ⟨c4, H⟩ := if_som H
    have c4b0 : decide (0 ≤ x5_1) = true := decide_eq_true c4
    clear c4
    have HC5 := Aside0.mk H
    clear H
    have p259 : 0 ≤ (x5_1 : Int) := odt
    have q259 : x5_1 < (l0.length : Int) := odt
    obtain ⟨ad259, A259_4, c259_4, A259_5, c259_5, A259_6, c259_6, e259, hx259_0, hx259_1, hx259_2, hx259_3, hx259_4, hx259_5, hx259_6, hx259_7, hl259_4, hi259_4, hl259_5, hi259_5, hl259_6, hi259_6⟩ := at_T28 HR0.out x5_1 p259 q259
    cases e259
    replace hx259_0 := pw_cell_below HB.out hx259_0
    replace hx259_1 := pw_cell_below HB.out hx259_1
    replace hx259_2 := pw_cell_below HB.out hx259_2
    replace hx259_3 := pw_cell_below HB.out hx259_3
    replace hx259_4 := pw_cell_below HB.out hx259_4
    replace hx259_5 := pw_cell_below HB.out hx259_5
    replace hx259_6 := pw_cell_below HB.out hx259_6
    replace hx259_7 := pw_cell_below HB.out hx259_7
    have HR259_4 := Aside0.mk hi259_4
    have HC259_4 := Aside0.mk hl259_4
    clear hi259_4 hl259_4
    have HR259_5 := Aside0.mk hi259_5
    have HC259_5 := Aside0.mk hl259_5
    clear hi259_5 hl259_5
    have HR259_6 := Aside0.mk hi259_6
    have HC259_6 := Aside0.mk hl259_6
    clear hi259_6 hl259_6
    replace p259 := eq_true p259
    replace q259 := eq_true q259
    go_upto_region 5 with (first | ((with_reducible refine gate_dst (N := 6) rfl ?_); refine box_event ?hg (N := 6) ?hd (cs := #[.int .i64 0, .string (⟨#[]⟩ : ByteArray), .string (⟨#[]⟩ : ByteArray), .string (⟨#[]⟩ : ByteArray), .slice none 0 0, .slice none 0 0, .slice none 0 0, .string (⟨#[]⟩ : ByteArray)]) (t := 28) ?hr ?_; (case hd => rfl); (case hg => rfl); (case hr => first | (go_simp; done) | (go_simp; rfl)); intro gb260 hg w6 hbox hb; have BK260 := Aside0.mk (hbox); have GW260 := Aside0.mk ((by rw [hg]; exact (below_size hB) : w.heap.size ≤ gb260)); have GE260 := Aside0.mk ((by rw [hg]; exact (below_size hB) : w.heap.size ≤ gb260)); replace HB := Aside0.mk (below_step hB hb); clear hb hbox hg; obtain ⟨hcz7_0, hcz7_1, hcz7_2, hcz7_3, hcz7_4, hcz7_5, hcz7_6, hcz7_7⟩ := bc8 BK260.out; obtain ⟨hfz7_0, hfz7_1, hfz7_2, hfz7_3, hfz7_4, hfz7_5, hfz7_6, hfz7_7⟩ := bf8 BK260.out))
    (try simp only [Act.put, sT, sZ, sS])
    go_cut [37] (fun v37 wc => ∃ (kq : Nat) (x37_4 : Bool), v37 = .bool x37_4 ∧ Aside0 (spec_l5Kids.j1 kq l0 a1 x5_1 x37_4 ((rd_T28 l0 x5_1).f0) ((rd_T28 l0 x5_1).f1) ((rd_T28 l0 x5_1).f2) ((rd_T28 l0 x5_1).f3) ((rd_T28 l0 x5_1).f4) ((rd_T28 l0 x5_1).f5) ((rd_T28 l0 x5_1).f6) ((rd_T28 l0 x5_1).f7) = some r) ∧ Aside0 (kq ≤ k1) ∧ Aside0 (wc.heap[gb260]? = some (.cells #[.int .i64 ((rd_T28 l0 x5_1).f0), .string ((rd_T28 l0 x5_1).f1), .string ((rd_T28 l0 x5_1).f2), .string ((rd_T28 l0 x5_1).f3), (.slice A259_4 ((rd_T28 l0 x5_1).f4).length c259_4), (.slice A259_5 ((rd_T28 l0 x5_1).f5).length c259_5), (.slice A259_6 ((rd_T28 l0 x5_1).f6).length c259_6), .string ((rd_T28 l0 x5_1).f7)] 28 (0, 0))) ∧ Aside0 (Below w.heap.size w wc))
    case first =>
     have H := HC5.out
     clear HC5
     replace H := Option.bind_eq_some_iff.mp H
     obtain ⟨t261, A80, H⟩ := H
     try dsimp only at H
     have A8 := Aside0.mk A80
     clear A80
     obtain ⟨hcz9_0, hcz9_1, hcz9_2, hcz9_3, hcz9_4, hcz9_5, hcz9_6, hcz9_7⟩ := bc8 BK260.out
     obtain ⟨hfz9_0, hfz9_1, hfz9_2, hfz9_3, hfz9_4, hfz9_5, hfz9_6, hfz9_7⟩ := bf8 BK260.out
     go_wp2_with (first | ((with_reducible refine gate_callee (f := 86) rfl ?_); refine goesL_ (some 18) rfl rfl Tryz.func86 (by kernel_rfl) rfl #[.agg #[.int .i64 ((rd_T28 l0 x5_1).f0), .string ((rd_T28 l0 x5_1).f1), .string ((rd_T28 l0 x5_1).f2), .string ((rd_T28 l0 x5_1).f3), .slice A259_4 ((rd_T28 l0 x5_1).f4).length c259_4, .slice A259_5 ((rd_T28 l0 x5_1).f5).length c259_5, .slice A259_6 ((rd_T28 l0 x5_1).f6).length c259_6, .string ((rd_T28 l0 x5_1).f7)]] rfl mA ?_; (with_reducible refine (spec_l5One.calls k1 ((rd_T28 l0 x5_1).f0) ((rd_T28 l0 x5_1).f1) ((rd_T28 l0 x5_1).f2) ((rd_T28 l0 x5_1).f3) _ _ ((rd_T28 l0 x5_1).f4) _ _ ((rd_T28 l0 x5_1).f5) _ _ ((rd_T28 l0 x5_1).f6) ((rd_T28 l0 x5_1).f7) t261 _ ?side1 ?side2 ?side3 ?side4 ?side5 ?side6 A8.out).mono ?_); (case side1 => exact Kd.C_below HR259_4.out hB); (case side2 => exact HC259_4.out); (case side3 => exact Kd.C_below HR259_5.out hB); (case side4 => exact HC259_5.out); (case side5 => exact Kd.C_below HR259_6.out hB); (case side6 => exact HC259_6.out); rintro e w10 ⟨rfl, hb⟩; refine ⟨_, rfl, ?_⟩; replace BK260 := Aside0.mk (blk_below (g := gb260) (by (with_reducible repeat (first | refine bN ?_ _|refine bD ?_|refine bA ?_ _)); exact put8 (by (with_reducible repeat (first | refine bN ?_ _|refine bD ?_|refine bA ?_ _)); exact BK260.out)) hb); replace HB := Aside0.mk (below_step hB hb); (try clear hb); (try clear hb2); (try clear hk); (try clear hi); refine halt_ ?_; intro q_ hq_))
     obtain ⟨rfl⟩ := hq_
     by_cases c11 : t261 = true
     ·subst c11
      rw [if_pos rfl] at H
      by_cases c12 : ((rd_T28 l0 x5_1).f0) = 2
      ·rw [if_pos c12] at H
       obtain ⟨c12b0, c12b1⟩ := eqT c12
       clear c12
       (first | rw [c12b0] | (simp only [i64_w, i32_w]; rw [c12b0]) | skip)
       by_cases c13 : x5_1 > 0
       ·rw [if_pos c13] at H
        have c13b0 : decide (0 < x5_1) = true := decide_eq_true c13
        clear c13
        obtain ⟨ji14, hji14⟩ : ∃ j_ : Int, (wrap64 (x5_1 - 1)) = j_ := ⟨_, rfl⟩
        replace H : (if 0 ≤ (ji14) then (if (ji14) < (l0.length : Int) then (spec_l5Kids.j1 k1 l0 a1 x5_1 (((rd_T28 l0 (ji14)).f0) == 2) ((rd_T28 l0 x5_1).f0) ((rd_T28 l0 x5_1).f1) ((rd_T28 l0 x5_1).f2) ((rd_T28 l0 x5_1).f3) ((rd_T28 l0 x5_1).f4) ((rd_T28 l0 x5_1).f5) ((rd_T28 l0 x5_1).f6) ((rd_T28 l0 x5_1).f7)) else (none)) else (none)) = some r := by first | (rw [hji14] at H; exact H) | (simp only [hji14] at H ⊢; exact H)
        have hji14w : (IntKind.i64.wrap (x5_1 - 1)) = ji14 := (i64_w _).trans hji14
        obtain ⟨c15, H⟩ := if_som H
        have c15b0 : decide (0 ≤ (ji14)) = true := decide_eq_true c15
        clear c15
        obtain ⟨c16, H⟩ := if_som H
        have c16b0 : decide ((ji14) < (l0.length : Int)) = true := decide_eq_true c16
        clear c16
        have H' := Aside0.mk H
        clear H
        obtain ⟨hcz17_0, hcz17_1, hcz17_2, hcz17_3, hcz17_4, hcz17_5, hcz17_6, hcz17_7⟩ := bc8 BK260.out
        obtain ⟨hfz17_0, hfz17_1, hfz17_2, hfz17_3, hfz17_4, hfz17_5, hfz17_6, hfz17_7⟩ := bf8 BK260.out
        have p262 : 0 ≤ ((ji14) : Int) := odt
        have q262 : (ji14) < (l0.length : Int) := odt
        obtain ⟨ad262, A262_4, c262_4, A262_5, c262_5, A262_6, c262_6, e262, hx262_0, hx262_1, hx262_2, hx262_3, hx262_4, hx262_5, hx262_6, hx262_7, hl262_4, hi262_4, hl262_5, hi262_5, hl262_6, hi262_6⟩ := at_T28 HR0.out (ji14) p262 q262
        obtain rfl : ad259 = ad262 := (by injection e262)
        replace hx262_0 := pw_cell_below HB.out hx262_0
        replace hx262_1 := pw_cell_below HB.out hx262_1
        replace hx262_2 := pw_cell_below HB.out hx262_2
        replace hx262_3 := pw_cell_below HB.out hx262_3
        replace hx262_4 := pw_cell_below HB.out hx262_4
        replace hx262_5 := pw_cell_below HB.out hx262_5
        replace hx262_6 := pw_cell_below HB.out hx262_6
        replace hx262_7 := pw_cell_below HB.out hx262_7
        have HR262_4 := Aside0.mk hi262_4
        have HC262_4 := Aside0.mk hl262_4
        clear hi262_4 hl262_4
        have HR262_5 := Aside0.mk hi262_5
        have HC262_5 := Aside0.mk hl262_5
        clear hi262_5 hl262_5
        have HR262_6 := Aside0.mk hi262_6
        have HC262_6 := Aside0.mk hl262_6
        clear hi262_6 hl262_6
        replace p262 := eq_true p262
        replace q262 := eq_true q262
        go_wp2
        go_meet
        case rel => exact ⟨_, ((((rd_T28 l0 (ji14)).f0) == 2)), (by first | rfl | (simp; done) | (simp only [← hji14] <;> (first | rfl | simp)) | (simp [*]; done)), H', ⟨by have := HK1.out; first | omega | exact Nat.le_refl _⟩, ⟨by (with_reducible repeat (first | refine bN ?_ _|refine bD ?_|refine bA ?_ _)); exact BK260.out⟩, ⟨hB⟩⟩
       ·rw [if_neg c13] at H
        have c13b0 : decide (0 < x5_1) = false := decide_eq_false c13
        clear c13
        have H' := Aside0.mk H
        clear H
        obtain ⟨hcz18_0, hcz18_1, hcz18_2, hcz18_3, hcz18_4, hcz18_5, hcz18_6, hcz18_7⟩ := bc8 BK260.out
        obtain ⟨hfz18_0, hfz18_1, hfz18_2, hfz18_3, hfz18_4, hfz18_5, hfz18_6, hfz18_7⟩ := bf8 BK260.out
        go_wp2
        go_meet
        case rel => exact ⟨_, (false), rG, H', ⟨by have := HK1.out; first | omega | exact Nat.le_refl _⟩, ⟨by (with_reducible repeat (first | refine bN ?_ _|refine bD ?_|refine bA ?_ _)); exact BK260.out⟩, ⟨hB⟩⟩
      ·rw [if_neg c12] at H
       obtain ⟨c12b0, c12b1⟩ := eqF c12
       (first | rw [c12b0] | (simp only [i64_w, i32_w]; rw [c12b0]) | skip)
       have H' := Aside0.mk H
       clear H
       obtain ⟨hcz19_0, hcz19_1, hcz19_2, hcz19_3, hcz19_4, hcz19_5, hcz19_6, hcz19_7⟩ := bc8 BK260.out
       obtain ⟨hfz19_0, hfz19_1, hfz19_2, hfz19_3, hfz19_4, hfz19_5, hfz19_6, hfz19_7⟩ := bf8 BK260.out
       go_wp2
       go_meet
       case rel => exact ⟨_, (false), rG, H', ⟨by have := HK1.out; first | omega | exact Nat.le_refl _⟩, ⟨by (with_reducible repeat (first | refine bN ?_ _|refine bD ?_|refine bA ?_ _)); exact BK260.out⟩, ⟨hB⟩⟩
     ·replace c11 := Bool.eq_false_iff.mpr c11
      subst c11
      rw [if_neg (show ¬ (false = true) by decide)] at H
      have H' := Aside0.mk H
      clear H
      go_wp2
      go_meet
      case rel => exact ⟨_, (true), rG, H', ⟨by have := HK1.out; first | omega | exact Nat.le_refl _⟩, ⟨by (with_reducible repeat (first | refine bN ?_ _|refine bD ?_|refine bA ?_ _)); exact BK260.out⟩, ⟨hB⟩⟩
    case rest =>
     clear HC5
     try clear c4; try clear c4b0; try clear c3; try clear c3b0
     try clear hcz7_0 hcz7_1 hcz7_2 hcz7_3 hcz7_4 hcz7_5 hcz7_6 hcz7_7
     try clear hfz7_0 hfz7_1 hfz7_2 hfz7_3 hfz7_4 hfz7_5 hfz7_6 hfz7_7
     try clear hx259_0
     try clear hx259_1
     try clear hx259_2
     try clear hx259_3
     try clear hx259_4
     try clear hx259_5
     try clear hx259_6
     try clear hx259_7
     try clear p259
     try clear q259
     obtain ⟨kq, x37_4, rfl, HA, HJ4, BK260, HB⟩ := hcut
     cases kq with
     | zero => exact absurd HA.out (by simp [spec_l5Kids.j1])
     | succ kj4 =>
      have H := HA.out
      clear HA
      simp only [spec_l5Kids.j1] at H
      by_cases c20 : x37_4 = true
      ·subst c20
       rw [if_pos rfl] at H
       obtain rfl := Option.some.inj H
       go_wp2
       go_ret
       exact ⟨rE, hB⟩
      ·replace c20 := Bool.eq_false_iff.mpr c20
       subst c20
       rw [if_neg (show ¬ (false = true) by decide)] at H
       by_cases c21 : ((rd_T28 l0 x5_1).f0) = 1
       ·rw [if_pos c21] at H
        obtain ⟨c21b0, c21b1⟩ := eqT c21
        clear c21
        by_cases c22 : a1 = 7
        ·rw [if_pos c22] at H
         obtain ⟨c22b0, c22b1⟩ := eqT c22
         clear c22
         obtain rfl := Option.some.inj H
         obtain ⟨hcz23_0, hcz23_1, hcz23_2, hcz23_3, hcz23_4, hcz23_5, hcz23_6, hcz23_7⟩ := bc8 BK260.out
         obtain ⟨hfz23_0, hfz23_1, hfz23_2, hfz23_3, hfz23_4, hfz23_5, hfz23_6, hfz23_7⟩ := bf8 BK260.out
         go_wp2
         go_ret
         exact ⟨rE, hB⟩
        ·rw [if_neg c22] at H
         obtain ⟨c22b0, c22b1⟩ := eqF c22
         replace H := Option.bind_eq_some_iff.mp H
         obtain ⟨t263, A240, H⟩ := H
         try dsimp only at H
         have A24 := Aside0.mk A240
         clear A240
         obtain ⟨hcz25_0, hcz25_1, hcz25_2, hcz25_3, hcz25_4, hcz25_5, hcz25_6, hcz25_7⟩ := bc8 BK260.out
         obtain ⟨hfz25_0, hfz25_1, hfz25_2, hfz25_3, hfz25_4, hfz25_5, hfz25_6, hfz25_7⟩ := bf8 BK260.out
         go_wp2_with (first | (go_at_call 46; (with_reducible refine (ih kj4 (by have := HK1.out; have := HJ4.out; omega) _ _ ((rd_T28 l0 x5_1).f6) (wrap64 (a1 + 1)) t263 _ ?side1 ?side2 A24.out).mono ?_); (case side1 => repeat (first | exact (Kd.C_below HR259_6.out HB.out) | (with_reducible refine Kd.C_alloc ?_ _) | (with_reducible refine Kd.C_drewN ?_ _) | (with_reducible refine Kd.C_drew ?_))); (case side2 => exact HC259_6.out); rintro e w26 ⟨rfl, hb⟩; replace BK260 := Aside0.mk (blk_below (g := gb260) (by (with_reducible repeat (first | refine bN ?_ _|refine bD ?_|refine bA ?_ _)); exact BK260.out) hb); replace HB := Aside0.mk (below_step hB hb); (try clear hb); (try clear hb2); (try clear hk); (try clear hi); refine halt_ ?_; intro q_ hq_))
         obtain ⟨rfl⟩ := hq_
         by_cases c27 : t263 = true
         ·subst c27
          rw [if_pos rfl] at H
          have H' := Aside0.mk H
          clear H
          go_wp2
          go_roundg kj4
          case measure => have := HK1.out; have := HJ4.out; omega
          case rel => exact ⟨(wrap64 (x5_1 + 1)), rG, H', ⟨by have := HK1.out; have := HJ4.out; omega⟩, ⟨hB⟩⟩
         ·replace c27 := Bool.eq_false_iff.mpr c27
          subst c27
          rw [if_neg (show ¬ (false = true) by decide)] at H
          obtain rfl := Option.some.inj H
          go_wp2
          go_ret
          exact ⟨rE, hB⟩
       ·rw [if_neg c21] at H
        obtain ⟨c21b0, c21b1⟩ := eqF c21
        have H' := Aside0.mk H
        clear H
        obtain ⟨hcz28_0, hcz28_1, hcz28_2, hcz28_3, hcz28_4, hcz28_5, hcz28_6, hcz28_7⟩ := bc8 BK260.out
        obtain ⟨hfz28_0, hfz28_1, hfz28_2, hfz28_3, hfz28_4, hfz28_5, hfz28_6, hfz28_7⟩ := bf8 BK260.out
        go_wp2
        go_roundg kj4
        case measure => have := HK1.out; have := HJ4.out; omega
        case rel => exact ⟨(wrap64 (x5_1 + 1)), rG, H', ⟨by have := HK1.out; have := HJ4.out; omega⟩, ⟨hB⟩⟩
   ·rw [if_neg c3] at H
    have c3b0 : decide (x5_1 < (l0.length : Int)) = false := decide_eq_false c3
    clear c3
    obtain rfl := Option.some.inj H
    go_wp2
    go_ret
    exact ⟨rE, hB⟩

end Go.Proofs.YtalionlkjdgciaaGreatDoor.PA
