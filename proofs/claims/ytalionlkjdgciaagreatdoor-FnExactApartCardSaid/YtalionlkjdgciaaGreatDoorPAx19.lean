-- Written by the session's program hprint.py, over the kit's print program. Lean checks it.
import Derived.Test.YtalionlkjdgciaaGreatDoorPAx0
import Derived.Test.YtalionlkjdgciaaGreatDoorPAx1
import Derived.Test.YtalionlkjdgciaaGreatDoorPAx2
import Derived.Test.YtalionlkjdgciaaGreatDoorPAx3
import Derived.Test.YtalionlkjdgciaaGreatDoorPAx12
import Derived.Test.YtalionlkjdgciaaGreatDoorPAx18
namespace Go.Proofs.YtalionlkjdgciaaGreatDoor.PA
open Go.RowKit Go.Proofs.YtalionlkjdgciaaGreatDoorW.PrintWords Go.Proofs.YtalionlkjdgciaaGreatDoorW.PrintLast Go.Proofs.YtalionlkjdgciaaGreatDoorW.PrintMore
attribute [local go_sem] max2_int min2_int max_two min_two max_three min_three max_four min_four   -- for this text's walks alone
set_option linter.unusedVariables false
set_option linter.unusedSimpArgs false
set_option maxHeartbeats 8000000
set_option maxRecDepth 100000

/-! ### laws_FnExactHashOf: function 5 -/
theorem laws_FnExactHashOf.far8 {α : Type} {d : Kd α} {e : Nat} {w : World} {base : Nat} {ok : Nat → Prop} {v : Value} {xs : List α} {g : Nat} {u0 u1 u2 u3 u4 u5 u6 u7 : Value} (h : d.R e w base (fun k => ok k ∧ k ≠ g) v xs) :
    d.R e ((((((((w.setCell ⟨g, 0, none⟩ u0).setCell ⟨g, 1, none⟩ u1).setCell ⟨g, 2, none⟩ u2).setCell ⟨g, 3, none⟩ u3).setCell ⟨g, 4, none⟩ u4).setCell ⟨g, 5, none⟩ u5).setCell ⟨g, 6, none⟩ u6).setCell ⟨g, 7, none⟩ u7) base ok v xs :=
  Kd.R_mono (Kd.R_far (p := ⟨g, 7, none⟩) (Kd.R_far (p := ⟨g, 6, none⟩) (Kd.R_far (p := ⟨g, 5, none⟩) (Kd.R_far (p := ⟨g, 4, none⟩) (Kd.R_far (p := ⟨g, 3, none⟩) (Kd.R_far (p := ⟨g, 2, none⟩) (Kd.R_far (p := ⟨g, 1, none⟩) (Kd.R_far (p := ⟨g, 0, none⟩) h (fun _ hk => hk.2) u0) (fun _ hk => hk.2) u1) (fun _ hk => hk.2) u2) (fun _ hk => hk.2) u3) (fun _ hk => hk.2) u4) (fun _ hk => hk.2) u5) (fun _ hk => hk.2) u6) (fun _ hk => hk.2) u7) (fun _ h_ => h_.1)
def laws_FnExactHashOf.f (k : Nat) (a0_0 : Int) (a0_1 : ByteArray) (a0_2 : ByteArray) (a0_3 : ByteArray) (l0_4 : List (S106)) (l0_5 : List (S108)) (l0_6 : List (S47)) (a0_7 : ByteArray) : Option (Bool) := (laws_szNode.f k a0_0 a0_1 a0_2 a0_3 l0_4 l0_5 l0_6 a0_7 1048576).bind fun t412 => (if t412 < 0 then (some true) else ((laws_toNode.f k a0_0 a0_1 a0_2 a0_3 l0_4 l0_5 l0_6 a0_7).bind fun bt413 => ((spec_HashOf.f k bt413.1 bt413.2.1 bt413.2.2.1 bt413.2.2.2.1 bt413.2.2.2.2.1 bt413.2.2.2.2.2.1 bt413.2.2.2.2.2.2.1 bt413.2.2.2.2.2.2.2).bind fun t427 => ((laws_toNode.f k a0_0 a0_1 a0_2 a0_3 l0_4 l0_5 l0_6 a0_7).bind fun bt428 => ((impl_HashOf.f k bt428.1 bt428.2.1 bt428.2.2.1 bt428.2.2.2.1 bt428.2.2.2.2.1 bt428.2.2.2.2.2.1 bt428.2.2.2.2.2.2.1 bt428.2.2.2.2.2.2.2).bind fun t443 => (if t443 = t427 then ((laws_toNode.f k a0_0 a0_1 a0_2 a0_3 l0_4 l0_5 l0_6 a0_7).bind fun bt444 => ((laws_eqNode.f k bt428.1 bt428.2.1 bt428.2.2.1 bt428.2.2.2.1 bt428.2.2.2.2.1 bt428.2.2.2.2.2.1 bt428.2.2.2.2.2.2.1 bt428.2.2.2.2.2.2.2 bt444.1 bt444.2.1 bt444.2.2.1 bt444.2.2.2.1 bt444.2.2.2.2.1 bt444.2.2.2.2.2.1 bt444.2.2.2.2.2.2.1 bt444.2.2.2.2.2.2.2).bind fun t458 => (if t458 = true then (some true) else (some false)))) else (some false)))))))
theorem laws_FnExactHashOf.calls (k : Nat) (a0_0 : Int) (a0_1 : ByteArray) (a0_2 : ByteArray) (a0_3 : ByteArray) (A0_4 : Option Addr) (c0_4 : Nat) (l0_4 : List (S106)) (A0_5 : Option Addr) (c0_5 : Nat) (l0_5 : List (S108)) (A0_6 : Option Addr) (c0_6 : Nat) (l0_6 : List (S47)) (a0_7 : ByteArray) (r_ : Bool) (w : World) (hr0_4 : Kd.C k106 w A0_4 l0_4.length l0_4) (hc0_4 : l0_4.length ≤ c0_4) (hr0_5 : Kd.C k108 w A0_5 l0_5.length l0_5) (hc0_5 : l0_5.length ≤ c0_5) (hr0_6 : Kd.C k47 w A0_6 l0_6.length l0_6) (hc0_6 : l0_6.length ≤ c0_6) (hTab : Tabs w) (h : laws_FnExactHashOf.f k a0_0 a0_1 a0_2 a0_3 l0_4 l0_5 l0_6 a0_7 = some true) :
  Calls Tryz.prog 5 #[.agg #[.int .i64 a0_0, .string a0_1, .string a0_2, .string a0_3, .slice A0_4 l0_4.length c0_4, .slice A0_5 l0_5.length c0_5, .slice A0_6 l0_6.length c0_6, .string a0_7]] w fun e w' => e = .returned (.bool true) ∧ Below w.heap.size w w' := by
 have HT := Aside0.mk hTab
 clear hTab
 have hu47 := Tryz.underlying47
 have hu28 := Tryz.underlying28
 have HR0_4 := Aside0.mk hr0_4
 have HC0_4 := Aside0.mk hc0_4
 clear hr0_4 hc0_4
 have HR0_5 := Aside0.mk hr0_5
 have HC0_5 := Aside0.mk hc0_5
 clear hr0_5 hc0_5
 have HR0_6 := Aside0.mk hr0_6
 have HC0_6 := Aside0.mk hc0_6
 clear hr0_6 hc0_6
 have HB := Aside0.mk (Below.refl w.heap.size w)
 have H : ((laws_szNode.f k a0_0 a0_1 a0_2 a0_3 l0_4 l0_5 l0_6 a0_7 1048576).bind fun t412 => (if t412 < 0 then (some true) else ((laws_toNode.f k a0_0 a0_1 a0_2 a0_3 l0_4 l0_5 l0_6 a0_7).bind fun bt413 => ((spec_HashOf.f k bt413.1 bt413.2.1 bt413.2.2.1 bt413.2.2.2.1 bt413.2.2.2.2.1 bt413.2.2.2.2.2.1 bt413.2.2.2.2.2.2.1 bt413.2.2.2.2.2.2.2).bind fun t427 => ((laws_toNode.f k a0_0 a0_1 a0_2 a0_3 l0_4 l0_5 l0_6 a0_7).bind fun bt428 => ((impl_HashOf.f k bt428.1 bt428.2.1 bt428.2.2.1 bt428.2.2.2.1 bt428.2.2.2.2.1 bt428.2.2.2.2.2.1 bt428.2.2.2.2.2.2.1 bt428.2.2.2.2.2.2.2).bind fun t443 => (if t443 = t427 then ((laws_toNode.f k a0_0 a0_1 a0_2 a0_3 l0_4 l0_5 l0_6 a0_7).bind fun bt444 => ((laws_eqNode.f k bt428.1 bt428.2.1 bt428.2.2.1 bt428.2.2.2.1 bt428.2.2.2.2.1 bt428.2.2.2.2.2.1 bt428.2.2.2.2.2.2.1 bt428.2.2.2.2.2.2.2 bt444.1 bt444.2.1 bt444.2.2.1 bt444.2.2.2.1 bt444.2.2.2.2.1 bt444.2.2.2.2.2.1 bt444.2.2.2.2.2.2.1 bt444.2.2.2.2.2.2.2).bind fun t458 => (if t458 = true then (some true) else (some false)))) else (some false)))))))) = some true := h
 clear h
 replace H := Option.bind_eq_some_iff.mp H
 obtain ⟨t412, A20, H⟩ := H
 try dsimp only at H
 have A2 := Aside0.mk A20
 clear A20
 go_enter Tryz.func5, Tryz.ntmps5
 go_wp2_with (first | ((with_reducible refine gate_dst (N := 1) rfl ?_); refine box_event ?hg (N := 1) ?hd (cs := #[.int .i64 a0_0, .string a0_1, .string a0_2, .string a0_3, .slice A0_4 l0_4.length c0_4, .slice A0_5 l0_5.length c0_5, .slice A0_6 l0_6.length c0_6, .string a0_7]) (t := 47) ?hr ?_; (case hd => rfl); (case hg => rfl); (case hr => first | (go_simp; done) | (go_simp; rfl)); intro gb411 hg w3 hbox hb; have BK411 := Aside0.mk (hbox); have GW411 := Aside0.mk ((by rw [hg]; exact (below_size hB) : w.heap.size ≤ gb411)); have GE411 := Aside0.mk ((by rw [hg]; exact (below_size hB) : w.heap.size ≤ gb411)); replace HB := Aside0.mk (below_step hB hb); clear hb hbox hg; obtain ⟨hcz4_0, hcz4_1, hcz4_2, hcz4_3, hcz4_4, hcz4_5, hcz4_6, hcz4_7⟩ := bc8 BK411.out; obtain ⟨hfz4_0, hfz4_1, hfz4_2, hfz4_3, hfz4_4, hfz4_5, hfz4_6, hfz4_7⟩ := bf8 BK411.out) | ((with_reducible refine gate_callee (f := 28) rfl ?_); refine goesL_ (some 9) rfl rfl Tryz.func28 (by kernel_rfl) rfl #[.agg #[.int .i64 a0_0, .string a0_1, .string a0_2, .string a0_3, .slice A0_4 l0_4.length c0_4, .slice A0_5 l0_5.length c0_5, .slice A0_6 l0_6.length c0_6, .string a0_7], .int .i64 1048576] rfl mA ?_; (with_reducible refine (laws_szNode.calls k a0_0 a0_1 a0_2 a0_3 _ _ l0_4 _ _ l0_5 _ _ l0_6 a0_7 1048576 t412 _ ?side1 ?side2 ?side3 ?side4 ?side5 ?side6 A2.out).mono ?_); (case side1 => repeat (first | exact (Kd.C_below HR0_4.out HB.out) | (with_reducible refine Kd.C_alloc ?_ _) | (with_reducible refine Kd.C_drewN ?_ _) | (with_reducible refine Kd.C_drew ?_))); (case side2 => exact HC0_4.out); (case side3 => repeat (first | exact (Kd.C_below HR0_5.out HB.out) | (with_reducible refine Kd.C_alloc ?_ _) | (with_reducible refine Kd.C_drewN ?_ _) | (with_reducible refine Kd.C_drew ?_))); (case side4 => exact HC0_5.out); (case side5 => repeat (first | exact (Kd.C_below HR0_6.out HB.out) | (with_reducible refine Kd.C_alloc ?_ _) | (with_reducible refine Kd.C_drewN ?_ _) | (with_reducible refine Kd.C_drew ?_))); (case side6 => exact HC0_6.out); rintro e w5 ⟨rfl, hb⟩; refine ⟨_, rfl, ?_⟩; replace BK411 := Aside0.mk (blk_below (g := gb411) (by (with_reducible repeat (first | refine bN ?_ _|refine bD ?_|refine bA ?_ _)); exact BK411.out) hb); replace HB := Aside0.mk (below_step hB hb); (try clear hb); (try clear hb2); (try clear hk); (try clear hi); refine halt_ ?_; intro q_ hq_))
 obtain ⟨rfl⟩ := hq_
 by_cases c6 : t412 < 0
 ·rw [if_pos c6] at H
  have c6b0 : decide (t412 < 0) = true := decide_eq_true c6
  clear c6
  first | obtain rfl := Option.some.inj H | clear H
  go_wp2
  go_ret
  exact ⟨rE, hB⟩
 ·rw [if_neg c6] at H
  have c6b0 : decide (t412 < 0) = false := decide_eq_false c6
  clear c6
  replace H := Option.bind_eq_some_iff.mp H
  obtain ⟨⟨t413, t414, t415, t416, t417, t420, t423, t426⟩, A70, H⟩ := H
  try dsimp only at H
  have A7 := Aside0.mk A70
  clear A70
  replace H := Option.bind_eq_some_iff.mp H
  obtain ⟨t427, A80, H⟩ := H
  try dsimp only at H
  have A8 := Aside0.mk A80
  clear A80
  replace H := Option.bind_eq_some_iff.mp H
  obtain ⟨⟨t428, t429, t430, t431, t432, t435, t438, t441⟩, A90, H⟩ := H
  try dsimp only at H
  have A9 := Aside0.mk A90
  clear A90
  replace H := Option.bind_eq_some_iff.mp H
  obtain ⟨t443, A100, H⟩ := H
  try dsimp only at H
  have A10 := Aside0.mk A100
  clear A100
  obtain ⟨hcz11_0, hcz11_1, hcz11_2, hcz11_3, hcz11_4, hcz11_5, hcz11_6, hcz11_7⟩ := bc8 BK411.out
  obtain ⟨hfz11_0, hfz11_1, hfz11_2, hfz11_3, hfz11_4, hfz11_5, hfz11_6, hfz11_7⟩ := bf8 BK411.out
  go_wp2_with (first | ((with_reducible refine gate_callee (f := 30) rfl ?_); refine goesL_ (some 13) rfl rfl Tryz.func30 (by kernel_rfl) rfl #[.agg #[.int .i64 a0_0, .string a0_1, .string a0_2, .string a0_3, .slice A0_4 l0_4.length c0_4, .slice A0_5 l0_5.length c0_5, .slice A0_6 l0_6.length c0_6, .string a0_7]] rfl mA ?_; (with_reducible refine (laws_toNode.calls k a0_0 a0_1 a0_2 a0_3 _ _ l0_4 _ _ l0_5 _ _ l0_6 a0_7 t413 t414 t415 t416 t417 t420 t423 t426 _ ?side1 ?side2 ?side3 ?side4 ?side5 ?side6 A7.out).mono ?_); (case side1 => repeat (first | exact (Kd.C_below HR0_4.out HB.out) | (with_reducible refine Kd.C_alloc ?_ _) | (with_reducible refine Kd.C_drewN ?_ _) | (with_reducible refine Kd.C_drew ?_))); (case side2 => exact HC0_4.out); (case side3 => repeat (first | exact (Kd.C_below HR0_5.out HB.out) | (with_reducible refine Kd.C_alloc ?_ _) | (with_reducible refine Kd.C_drewN ?_ _) | (with_reducible refine Kd.C_drew ?_))); (case side4 => exact HC0_5.out); (case side5 => repeat (first | exact (Kd.C_below HR0_6.out HB.out) | (with_reducible refine Kd.C_alloc ?_ _) | (with_reducible refine Kd.C_drewN ?_ _) | (with_reducible refine Kd.C_drew ?_))); (case side6 => exact HC0_6.out); rintro e w12 ⟨v418, v421, v424, rfl, ho0, ho1, ho2, hb⟩; refine ⟨_, rfl, ?_⟩; have HO419 := Aside0.mk (Kd.R_lower ho0 (below_size hB)); have HO422 := Aside0.mk (Kd.R_lower ho1 (below_size hB)); have HO425 := Aside0.mk (Kd.R_lower ho2 (below_size hB)); replace BK411 := Aside0.mk (blk_below (g := gb411) (by (with_reducible repeat (first | refine bN ?_ _|refine bD ?_|refine bA ?_ _)); exact BK411.out) hb); replace HB := Aside0.mk (below_step hB hb); (try clear hb); (try clear hb2); (try clear hk); (try clear hi); (try clear ho0); (try clear ho1); (try clear ho2); obtain ⟨Ao13, co13, eo13⟩ := Kd.R_slice HO419.out; subst eo13; obtain ⟨Ao14, co14, eo14⟩ := Kd.R_slice HO422.out; subst eo14; obtain ⟨Ao15, co15, eo15⟩ := Kd.R_slice HO425.out; subst eo15) | ((with_reducible refine gate_callee (f := 29) rfl ?_); refine goesL_ (some 14) rfl rfl Tryz.func29 (by kernel_rfl) rfl #[.agg #[.int .i64 t413, .string t414, .string t415, .string t416, .slice Ao13 t417.length co13, .slice Ao14 t420.length co14, .slice Ao15 t423.length co15, .string t426]] rfl mA ?_; (with_reducible refine (spec_HashOf.calls k t413 t414 t415 t416 _ _ t417 _ _ t420 _ _ t423 t426 t427 _ ?side1 ?side2 ?side3 ?side4 ?side5 ?side6 A8.out).mono ?_); (case side1 => repeat (first | exact (Kd.R_reads' HO419.out).2.2 | (with_reducible refine Kd.C_alloc ?_ _) | (with_reducible refine Kd.C_drewN ?_ _) | (with_reducible refine Kd.C_drew ?_))); (case side2 => exact (Kd.R_reads' HO419.out).2.1); (case side3 => repeat (first | exact (Kd.R_reads' HO422.out).2.2 | (with_reducible refine Kd.C_alloc ?_ _) | (with_reducible refine Kd.C_drewN ?_ _) | (with_reducible refine Kd.C_drew ?_))); (case side4 => exact (Kd.R_reads' HO422.out).2.1); (case side5 => repeat (first | exact (Kd.R_reads' HO425.out).2.2 | (with_reducible refine Kd.C_alloc ?_ _) | (with_reducible refine Kd.C_drewN ?_ _) | (with_reducible refine Kd.C_drew ?_))); (case side6 => exact (Kd.R_reads' HO425.out).2.1); rintro e w16 ⟨rfl, hb⟩; refine ⟨_, rfl, ?_⟩; replace HO419 := Aside0.mk (Kd.R_below (by (with_reducible repeat (first|apply rA|apply rN|apply rD)); exact HO419.out) hb); replace HO422 := Aside0.mk (Kd.R_below (by (with_reducible repeat (first|apply rA|apply rN|apply rD)); exact HO422.out) hb); replace HO425 := Aside0.mk (Kd.R_below (by (with_reducible repeat (first|apply rA|apply rN|apply rD)); exact HO425.out) hb); replace BK411 := Aside0.mk (blk_below (g := gb411) (by (with_reducible repeat (first | refine bN ?_ _|refine bD ?_|refine bA ?_ _)); exact BK411.out) hb); replace HB := Aside0.mk (below_step hB hb); (try clear hb); (try clear hb2); (try clear hk); (try clear hi); obtain ⟨hcz17_0, hcz17_1, hcz17_2, hcz17_3, hcz17_4, hcz17_5, hcz17_6, hcz17_7⟩ := bc8 BK411.out; obtain ⟨hfz17_0, hfz17_1, hfz17_2, hfz17_3, hfz17_4, hfz17_5, hfz17_6, hfz17_7⟩ := bf8 BK411.out) | ((with_reducible refine gate_callee (f := 30) rfl ?_); refine goesL_ (some 16) rfl rfl Tryz.func30 (by kernel_rfl) rfl #[.agg #[.int .i64 a0_0, .string a0_1, .string a0_2, .string a0_3, .slice A0_4 l0_4.length c0_4, .slice A0_5 l0_5.length c0_5, .slice A0_6 l0_6.length c0_6, .string a0_7]] rfl mA ?_; (with_reducible refine (laws_toNode.calls k a0_0 a0_1 a0_2 a0_3 _ _ l0_4 _ _ l0_5 _ _ l0_6 a0_7 t428 t429 t430 t431 t432 t435 t438 t441 _ ?side1 ?side2 ?side3 ?side4 ?side5 ?side6 A9.out).mono ?_); (case side1 => repeat (first | exact (Kd.C_below HR0_4.out HB.out) | (with_reducible refine Kd.C_alloc ?_ _) | (with_reducible refine Kd.C_drewN ?_ _) | (with_reducible refine Kd.C_drew ?_))); (case side2 => exact HC0_4.out); (case side3 => repeat (first | exact (Kd.C_below HR0_5.out HB.out) | (with_reducible refine Kd.C_alloc ?_ _) | (with_reducible refine Kd.C_drewN ?_ _) | (with_reducible refine Kd.C_drew ?_))); (case side4 => exact HC0_5.out); (case side5 => repeat (first | exact (Kd.C_below HR0_6.out HB.out) | (with_reducible refine Kd.C_alloc ?_ _) | (with_reducible refine Kd.C_drewN ?_ _) | (with_reducible refine Kd.C_drew ?_))); (case side6 => exact HC0_6.out); rintro e w18 ⟨v433, v436, v439, rfl, ho0, ho1, ho2, hb⟩; refine ⟨_, rfl, ?_⟩; have HO434 := Aside0.mk (Kd.R_lower (Kd.R_new' ho0 (Kd.R_lt (by (with_reducible repeat (first|apply rA|apply rN|apply rD)); exact HO419.out))) (below_size hB)); have HO437 := Aside0.mk (Kd.R_lower (Kd.R_new' ho1 (Kd.R_lt (by (with_reducible repeat (first|apply rA|apply rN|apply rD)); exact HO422.out))) (below_size hB)); have HO440 := Aside0.mk (Kd.R_lower (Kd.R_new' (Kd.R_new' (Kd.R_new' ho2 (Kd.R_lt (by (with_reducible repeat (first|apply rA|apply rN|apply rD)); exact HO419.out))) (Kd.R_lt (by (with_reducible repeat (first|apply rA|apply rN|apply rD)); exact HO422.out))) (Kd.R_lt (by (with_reducible repeat (first|apply rA|apply rN|apply rD)); exact HO425.out))) (below_size hB)); replace HO419 := Aside0.mk (Kd.R_elder' (by (with_reducible repeat (first|apply rA|apply rN|apply rD)); exact HO419.out) (Kd.R_base ho0) hb); replace HO422 := Aside0.mk (Kd.R_elder' (by (with_reducible repeat (first|apply rA|apply rN|apply rD)); exact HO422.out) (Kd.R_base ho1) hb); replace HO425 := Aside0.mk (Kd.R_mono (Kd.R_told (Kd.R_told (Kd.R_told (Kd.R_old (by (with_reducible repeat (first|apply rA|apply rN|apply rD)); exact HO425.out) hb) (Kd.R_base ho0)) (Kd.R_base ho1)) (Kd.R_base ho2)) (fun _ h_ => h_.1)); replace BK411 := Aside0.mk (blk_below (g := gb411) (by (with_reducible repeat (first | refine bN ?_ _|refine bD ?_|refine bA ?_ _)); exact BK411.out) hb); replace HB := Aside0.mk (below_step hB hb); (try clear hb); (try clear hb2); (try clear hk); (try clear hi); (try clear ho0); (try clear ho1); (try clear ho2)) | ((with_reducible refine gate_dst (N := 5) rfl ?_); refine box_event ?hg (N := 5) ?hd (cs := #[.int .i64 0, .string (⟨#[]⟩ : ByteArray), .string (⟨#[]⟩ : ByteArray), .string (⟨#[]⟩ : ByteArray), .slice none 0 0, .slice none 0 0, .slice none 0 0, .string (⟨#[]⟩ : ByteArray)]) (t := 28) ?hr ?_; (case hd => rfl); (case hg => rfl); (case hr => first | (go_simp; done) | (go_simp; rfl)); intro gb442 hg w19 hbox hb; replace HO419 := Aside0.mk (Kd.R_below (by (with_reducible repeat (first|apply rA|apply rN|apply rD)); exact HO419.out) hb); replace HO422 := Aside0.mk (Kd.R_below (by (with_reducible repeat (first|apply rA|apply rN|apply rD)); exact HO422.out) hb); replace HO425 := Aside0.mk (Kd.R_below (Kd.R_elderB (by (with_reducible repeat (first|apply rA|apply rN|apply rD)); exact HO425.out) gb442 (Nat.le_of_eq hg.symm)) hb); replace HO434 := Aside0.mk (Kd.R_below (by (with_reducible repeat (first|apply rA|apply rN|apply rD)); exact HO434.out) hb); replace HO437 := Aside0.mk (Kd.R_below (by (with_reducible repeat (first|apply rA|apply rN|apply rD)); exact HO437.out) hb); replace HO440 := Aside0.mk (Kd.R_below (Kd.R_elderB (by (with_reducible repeat (first|apply rA|apply rN|apply rD)); exact HO440.out) gb442 (Nat.le_of_eq hg.symm)) hb); have BK442 := Aside0.mk (hbox); have GW442 := Aside0.mk ((by rw [hg]; exact (below_size hB) : w.heap.size ≤ gb442)); have GE442 := Aside0.mk ((by rw [hg]; exact (below_size hB) : w.heap.size ≤ gb442)); replace HB := Aside0.mk (below_step hB hb); have NB411_442 := Aside0.mk ((by rw [hg]; exact Nat.ne_of_lt (blk_lt (g := gb411) (by (with_reducible repeat (first | refine bN ?_ _|refine bD ?_|refine bA ?_ _)); exact BK411.out)) : gb411 ≠ gb442)); have NB442_411 := Aside0.mk ((by rw [hg]; exact Nat.ne_of_gt (blk_lt (g := gb411) (by (with_reducible repeat (first | refine bN ?_ _|refine bD ?_|refine bA ?_ _)); exact BK411.out)) : gb442 ≠ gb411)); replace BK411 := Aside0.mk (blk_below (g := gb411) (by (with_reducible repeat (first | refine bN ?_ _|refine bD ?_|refine bA ?_ _)); exact BK411.out) hb); clear hb hbox hg; have hnb20 := NB442_411.out; have hnc20 := NB411_442.out; obtain ⟨hcz21_0, hcz21_1, hcz21_2, hcz21_3, hcz21_4, hcz21_5, hcz21_6, hcz21_7⟩ := bc8 BK442.out; obtain ⟨hfz21_0, hfz21_1, hfz21_2, hfz21_3, hfz21_4, hfz21_5, hfz21_6, hfz21_7⟩ := bf8 BK442.out; obtain ⟨Ao22, co22, eo22⟩ := Kd.R_slice HO434.out; subst eo22; obtain ⟨Ao23, co23, eo23⟩ := Kd.R_slice HO437.out; subst eo23; obtain ⟨Ao24, co24, eo24⟩ := Kd.R_slice HO440.out; subst eo24) | ((with_reducible refine gate_callee (f := 31) rfl ?_); refine goesL_ (some 18) rfl rfl Tryz.func31 (by kernel_rfl) rfl #[.agg #[.int .i64 t428, .string t429, .string t430, .string t431, .slice Ao22 t432.length co22, .slice Ao23 t435.length co23, .slice Ao24 t438.length co24, .string t441]] rfl mA ?_; (with_reducible refine (impl_HashOf.calls k t428 t429 t430 t431 _ _ t432 _ _ t435 _ _ t438 t441 t443 _ ?side1 ?side2 ?side3 ?side4 ?side5 ?side6 ?tabs A10.out).mono ?_); (case tabs => first | exact Tabs.below HT.out hB | (repeat (first | exact HT.out | (with_reducible refine Tabs.drewN ?_ _) | (with_reducible refine Tabs.drew ?_) | (with_reducible refine Tabs.alloc ?_ _)))); (case side1 => refine (Kd.R_reads' (e := 73) (base := w.heap.size) (ok := fun k_ => (True ∧ some k_ ≠ (.slice Ao13 t417.length co13 : Value).ownBlock)) (n := t432.length) (c := co22) ?_).2.2; exact (by (with_reducible repeat (first|apply rA|apply rN|apply rD)); exact (laws_FnExactHashOf.far8 (Kd.R_types HO434.out BK442.out (by decide))))); (case side2 => exact (Kd.R_reads' HO434.out).2.1); (case side3 => refine (Kd.R_reads' (e := 68) (base := w.heap.size) (ok := fun k_ => (True ∧ some k_ ≠ (.slice Ao14 t420.length co14 : Value).ownBlock)) (n := t435.length) (c := co23) ?_).2.2; exact (by (with_reducible repeat (first|apply rA|apply rN|apply rD)); exact (laws_FnExactHashOf.far8 (Kd.R_types HO437.out BK442.out (by decide))))); (case side4 => exact (Kd.R_reads' HO437.out).2.1); (case side5 => refine (Kd.R_reads' (e := 28) (base := w.heap.size) (ok := fun k_ => (((((some k_ ≠ (.slice Ao22 t432.length co22 : Value).ownBlock ∧ some k_ ≠ (.slice Ao23 t435.length co23 : Value).ownBlock) ∧ some k_ ≠ (.slice Ao13 t417.length co13 : Value).ownBlock) ∧ some k_ ≠ (.slice Ao14 t420.length co14 : Value).ownBlock) ∧ some k_ ≠ (.slice Ao15 t423.length co15 : Value).ownBlock) ∧ k_ ≠ gb442)) (n := t438.length) (c := co24) ?_).2.2; exact (by (with_reducible repeat (first|apply rA|apply rN|apply rD)); exact (Kd.R_mono (Kd.R_far (p := ⟨gb442, 7, none⟩) (Kd.R_far (p := ⟨gb442, 6, none⟩) (Kd.R_far (p := ⟨gb442, 5, none⟩) (Kd.R_far (p := ⟨gb442, 4, none⟩) (Kd.R_far (p := ⟨gb442, 3, none⟩) (Kd.R_far (p := ⟨gb442, 2, none⟩) (Kd.R_far (p := ⟨gb442, 1, none⟩) (Kd.R_far (p := ⟨gb442, 0, none⟩) (Kd.R_mono HO440.out (fun k_ hk => (⟨hk, hk.2⟩ : _ ∧ k_ ≠ gb442))) (fun _ hk => hk.2) (.int .i64 t428)) (fun _ hk => hk.2) (.string t429)) (fun _ hk => hk.2) (.string t430)) (fun _ hk => hk.2) (.string t431)) (fun _ hk => hk.2) (.slice Ao22 t432.length co22)) (fun _ hk => hk.2) (.slice Ao23 t435.length co23)) (fun _ hk => hk.2) (.slice Ao24 t438.length co24)) (fun _ hk => hk.2) (.string t441)) (fun _ h_ => h_.1)))); (case side6 => exact (Kd.R_reads' HO440.out).2.1); rintro e w25 ⟨rfl, hb⟩; refine ⟨_, rfl, ?_⟩; replace HO419 := Aside0.mk (Kd.R_below (by (with_reducible repeat (first|apply rA|apply rN|apply rD)); exact (laws_FnExactHashOf.far8 (Kd.R_types HO419.out BK442.out (by decide)))) hb); replace HO422 := Aside0.mk (Kd.R_below (by (with_reducible repeat (first|apply rA|apply rN|apply rD)); exact (laws_FnExactHashOf.far8 (Kd.R_types HO422.out BK442.out (by decide)))) hb); replace HO425 := Aside0.mk (Kd.R_below (by (with_reducible repeat (first|apply rA|apply rN|apply rD)); exact (Kd.R_mono (Kd.R_far (p := ⟨gb442, 7, none⟩) (Kd.R_far (p := ⟨gb442, 6, none⟩) (Kd.R_far (p := ⟨gb442, 5, none⟩) (Kd.R_far (p := ⟨gb442, 4, none⟩) (Kd.R_far (p := ⟨gb442, 3, none⟩) (Kd.R_far (p := ⟨gb442, 2, none⟩) (Kd.R_far (p := ⟨gb442, 1, none⟩) (Kd.R_far (p := ⟨gb442, 0, none⟩) (Kd.R_mono HO425.out (fun k_ hk => (⟨hk, hk.2⟩ : _ ∧ k_ ≠ gb442))) (fun _ hk => hk.2) (.int .i64 t428)) (fun _ hk => hk.2) (.string t429)) (fun _ hk => hk.2) (.string t430)) (fun _ hk => hk.2) (.string t431)) (fun _ hk => hk.2) (.slice Ao22 t432.length co22)) (fun _ hk => hk.2) (.slice Ao23 t435.length co23)) (fun _ hk => hk.2) (.slice Ao24 t438.length co24)) (fun _ hk => hk.2) (.string t441)) (fun _ h_ => h_.1))) hb); replace HO434 := Aside0.mk (Kd.R_below (by (with_reducible repeat (first|apply rA|apply rN|apply rD)); exact (laws_FnExactHashOf.far8 (Kd.R_types HO434.out BK442.out (by decide)))) hb); replace HO437 := Aside0.mk (Kd.R_below (by (with_reducible repeat (first|apply rA|apply rN|apply rD)); exact (laws_FnExactHashOf.far8 (Kd.R_types HO437.out BK442.out (by decide)))) hb); replace HO440 := Aside0.mk (Kd.R_below (by (with_reducible repeat (first|apply rA|apply rN|apply rD)); exact (Kd.R_mono (Kd.R_far (p := ⟨gb442, 7, none⟩) (Kd.R_far (p := ⟨gb442, 6, none⟩) (Kd.R_far (p := ⟨gb442, 5, none⟩) (Kd.R_far (p := ⟨gb442, 4, none⟩) (Kd.R_far (p := ⟨gb442, 3, none⟩) (Kd.R_far (p := ⟨gb442, 2, none⟩) (Kd.R_far (p := ⟨gb442, 1, none⟩) (Kd.R_far (p := ⟨gb442, 0, none⟩) (Kd.R_mono HO440.out (fun k_ hk => (⟨hk, hk.2⟩ : _ ∧ k_ ≠ gb442))) (fun _ hk => hk.2) (.int .i64 t428)) (fun _ hk => hk.2) (.string t429)) (fun _ hk => hk.2) (.string t430)) (fun _ hk => hk.2) (.string t431)) (fun _ hk => hk.2) (.slice Ao22 t432.length co22)) (fun _ hk => hk.2) (.slice Ao23 t435.length co23)) (fun _ hk => hk.2) (.slice Ao24 t438.length co24)) (fun _ hk => hk.2) (.string t441)) (fun _ h_ => h_.1))) hb); replace BK411 := Aside0.mk (blk_below (g := gb411) (by (with_reducible repeat (first | refine bN ?_ _|refine bD ?_|refine bA ?_ _)); exact pfa8 (hn := NB411_442.out) (by (with_reducible repeat (first | refine bN ?_ _|refine bD ?_|refine bA ?_ _)); exact BK411.out)) hb); replace BK442 := Aside0.mk (blk_below (g := gb442) (by (with_reducible repeat (first | refine bN ?_ _|refine bD ?_|refine bA ?_ _)); exact put8 (by (with_reducible repeat (first | refine bN ?_ _|refine bD ?_|refine bA ?_ _)); exact BK442.out)) hb); replace HB := Aside0.mk (below_step hB hb); (try clear hb); (try clear hb2); (try clear hk); (try clear hi); refine halt_ ?_; intro q_ hq_))
  obtain ⟨rfl⟩ := hq_
  by_cases c26 : t443 = t427
  ·rw [if_pos c26] at H
   have c26b0 : (t443 == t427) = true := beq_iff_eq.mpr c26
   have c26b1 : (t443 != t427) = false := bne_eq_false_iff_eq.mpr c26
   clear c26
   replace H := Option.bind_eq_some_iff.mp H
   obtain ⟨⟨t444, t445, t446, t447, t448, t451, t454, t457⟩, A270, H⟩ := H
   try dsimp only at H
   have A27 := Aside0.mk A270
   clear A270
   replace H := Option.bind_eq_some_iff.mp H
   obtain ⟨t458, A280, H⟩ := H
   try dsimp only at H
   have A28 := Aside0.mk A280
   clear A280
   by_cases c29 : t458 = true
   ·subst c29
    have H1 : (some true) = some true := rfl
    clear H
    have H := H1
    clear H1
    first | obtain rfl := Option.some.inj H | clear H
    try go_wp2
    replace HO419 := Aside0.mk (Kd.R_drew HO419.out)
    replace HO422 := Aside0.mk (Kd.R_drew HO422.out)
    replace HO425 := Aside0.mk (Kd.R_drew HO425.out)
    replace HO434 := Aside0.mk (Kd.R_drew HO434.out)
    replace HO437 := Aside0.mk (Kd.R_drew HO437.out)
    replace HO440 := Aside0.mk (Kd.R_drew HO440.out)
    replace BK411 := Aside0.mk (blk_drew BK411.out)
    replace BK442 := Aside0.mk (blk_drew BK442.out)
    replace HB := Aside0.mk (below_drew1 HB.out)
    refine start_ (n := 5) (S := fun w' => w'.cell? ⟨gb442, 0, none⟩ = some (.int .i64 t428) ∧ w'.cell? ⟨gb442, 1, none⟩ = some (.string t429) ∧ w'.cell? ⟨gb442, 2, none⟩ = some (.string t430) ∧ w'.cell? ⟨gb442, 3, none⟩ = some (.string t431) ∧ w'.cell? ⟨gb442, 4, none⟩ = some (.slice Ao22 t432.length co22) ∧ w'.cell? ⟨gb442, 5, none⟩ = some (.slice Ao23 t435.length co23) ∧ w'.cell? ⟨gb442, 6, none⟩ = some (.slice Ao24 t438.length co24) ∧ w'.cell? ⟨gb442, 7, none⟩ = some (.string t441) ∧ w'.cell? ⟨gb411, 0, none⟩ = some (.int .i64 a0_0) ∧ w'.cell? ⟨gb411, 1, none⟩ = some (.string a0_1) ∧ w'.cell? ⟨gb411, 2, none⟩ = some (.string a0_2) ∧ w'.cell? ⟨gb411, 3, none⟩ = some (.string a0_3) ∧ w'.cell? ⟨gb411, 4, none⟩ = some (.slice A0_4 l0_4.length c0_4) ∧ w'.cell? ⟨gb411, 5, none⟩ = some (.slice A0_5 l0_5.length c0_5) ∧ w'.cell? ⟨gb411, 6, none⟩ = some (.slice A0_6 l0_6.length c0_6) ∧ w'.cell? ⟨gb411, 7, none⟩ = some (.string a0_7)) (ds := []) #[false, false, false, false, false] (by kernel_rfl) rfl rfl ⟨(blk_cell BK442.out 0).trans rfl, (blk_cell BK442.out 1).trans rfl, (blk_cell BK442.out 2).trans rfl, (blk_cell BK442.out 3).trans rfl, (blk_cell BK442.out 4).trans rfl, (blk_cell BK442.out 5).trans rfl, (blk_cell BK442.out 6).trans rfl, (blk_cell BK442.out 7).trans rfl, (blk_cell BK411.out 0).trans rfl, (blk_cell BK411.out 1).trans rfl, (blk_cell BK411.out 2).trans rfl, (blk_cell BK411.out 3).trans rfl, (blk_cell BK411.out 4).trans rfl, (blk_cell BK411.out 5).trans rfl, (blk_cell BK411.out 6).trans rfl, (blk_cell BK411.out 7).trans rfl⟩ (fun hHeld => ?_)
    generalize w25.drew = w30 at HO419 HO422 HO425 HO434 HO437 HO440 BK411 BK442 HB hHeld ⊢
    refine take_ (i := 0) (N := some 22) (v := ?_) (a' := ?_) (tf 1 4) rfl rfl (by kernel_rfl) (fun _ _ _ h => h) (Or.inl ⟨by rfl, ?_⟩) hHeld ?_ ?_
    rotate_left
    ·rintro w' ⟨s0, s1, s2, s3, s4, s5, s6, s7, s8, s9, s10, s11, s12, s13, s14, s15⟩
     go_simp
     with_reducible rfl
    rotate_left
    ·simp only [Act.put, sT, sZ, sS, i64_w, i32_w]
     rfl
    refine take_ (i := 1) (N := some 23) (v := ?_) (a' := ?_) (tf 2 3) rfl rfl (by kernel_rfl) (fun _ _ _ h => h) (Or.inl ⟨by rfl, ?_⟩) hHeld ?_ ?_
    rotate_left
    ·rintro w' ⟨s0, s1, s2, s3, s4, s5, s6, s7, s8, s9, s10, s11, s12, s13, s14, s15⟩
     go_simp
     with_reducible rfl
    rotate_left
    ·simp only [Act.put, sT, sZ, sS, i64_w, i32_w]
     rfl
    refine one_ (i := 2) (N := some 24) (tf 3 2) rfl rfl (by kernel_rfl) (by decide) (fun K hK => ?_)
    refine goes_ Tryz.func30 (by kernel_rfl) rfl #[.agg #[.int .i64 a0_0, .string a0_1, .string a0_2, .string a0_3, .slice A0_4 l0_4.length c0_4, .slice A0_5 l0_5.length c0_5, .slice A0_6 l0_6.length c0_6, .string a0_7]] (by rfl) rfl rfl mA ?_
    with_reducible refine (laws_toNode.calls k a0_0 a0_1 a0_2 a0_3 _ _ l0_4 _ _ l0_5 _ _ l0_6 a0_7 t444 t445 t446 t447 t448 t451 t454 t457 _ ?side1 ?side2 ?side3 ?side4 ?side5 ?side6 A27.out).mono ?_
    (case side1 => repeat (first | exact (Kd.C_below HR0_4.out HB.out) | (with_reducible refine Kd.C_alloc ?_ _) | (with_reducible refine Kd.C_drewN ?_ _) | (with_reducible refine Kd.C_drew ?_)))
    (case side2 => exact HC0_4.out)
    (case side3 => repeat (first | exact (Kd.C_below HR0_5.out HB.out) | (with_reducible refine Kd.C_alloc ?_ _) | (with_reducible refine Kd.C_drewN ?_ _) | (with_reducible refine Kd.C_drew ?_)))
    (case side4 => exact HC0_5.out)
    (case side5 => repeat (first | exact (Kd.C_below HR0_6.out HB.out) | (with_reducible refine Kd.C_alloc ?_ _) | (with_reducible refine Kd.C_drewN ?_ _) | (with_reducible refine Kd.C_drew ?_)))
    (case side6 => exact HC0_6.out)
    rintro e w31 ⟨v449, v452, v455, rfl, ho0, ho1, ho2, hb⟩
    refine ⟨_, rfl, ?_⟩
    have HO450 := Aside0.mk (Kd.R_lower (Kd.R_new' (Kd.R_new' ho0 (Kd.R_lt (by (with_reducible repeat (first|apply rA|apply rN|apply rD)); exact HO419.out))) (Kd.R_lt (by (with_reducible repeat (first|apply rA|apply rN|apply rD)); exact HO434.out))) (below_size hB))
    have HO453 := Aside0.mk (Kd.R_lower (Kd.R_new' (Kd.R_new' ho1 (Kd.R_lt (by (with_reducible repeat (first|apply rA|apply rN|apply rD)); exact HO422.out))) (Kd.R_lt (by (with_reducible repeat (first|apply rA|apply rN|apply rD)); exact HO437.out))) (below_size hB))
    have HO456 := Aside0.mk (Kd.R_lower (Kd.R_newB (Kd.R_new' (Kd.R_new' (Kd.R_new' (Kd.R_new' (Kd.R_new' (Kd.R_new' ho2 (Kd.R_lt (by (with_reducible repeat (first|apply rA|apply rN|apply rD)); exact HO419.out))) (Kd.R_lt (by (with_reducible repeat (first|apply rA|apply rN|apply rD)); exact HO422.out))) (Kd.R_lt (by (with_reducible repeat (first|apply rA|apply rN|apply rD)); exact HO425.out))) (Kd.R_lt (by (with_reducible repeat (first|apply rA|apply rN|apply rD)); exact HO434.out))) (Kd.R_lt (by (with_reducible repeat (first|apply rA|apply rN|apply rD)); exact HO437.out))) (Kd.R_lt (by (with_reducible repeat (first|apply rA|apply rN|apply rD)); exact HO440.out))) (g := gb442) (by (with_reducible repeat (first | refine bN ?_ _|refine bD ?_|refine bA ?_ _)); exact BK442.out)) (below_size hB))
    replace HO419 := Aside0.mk (Kd.R_elder' (by (with_reducible repeat (first|apply rA|apply rN|apply rD)); exact HO419.out) (Kd.R_base ho0) hb)
    replace HO422 := Aside0.mk (Kd.R_elder' (by (with_reducible repeat (first|apply rA|apply rN|apply rD)); exact HO422.out) (Kd.R_base ho1) hb)
    replace HO425 := Aside0.mk (Kd.R_mono (Kd.R_told (Kd.R_told (Kd.R_told (Kd.R_old (by (with_reducible repeat (first|apply rA|apply rN|apply rD)); exact HO425.out) hb) (Kd.R_base ho0)) (Kd.R_base ho1)) (Kd.R_base ho2)) (fun _ h_ => h_.1))
    replace HO434 := Aside0.mk (Kd.R_elder' (by (with_reducible repeat (first|apply rA|apply rN|apply rD)); exact HO434.out) (Kd.R_base ho0) hb)
    replace HO437 := Aside0.mk (Kd.R_elder' (by (with_reducible repeat (first|apply rA|apply rN|apply rD)); exact HO437.out) (Kd.R_base ho1) hb)
    replace HO440 := Aside0.mk (Kd.R_mono (Kd.R_told (Kd.R_told (Kd.R_told (Kd.R_old (by (with_reducible repeat (first|apply rA|apply rN|apply rD)); exact HO440.out) hb) (Kd.R_base ho0)) (Kd.R_base ho1)) (Kd.R_base ho2)) (fun _ h_ => h_.1))
    replace BK411 := Aside0.mk (blk_below (g := gb411) (by (with_reducible repeat (first | refine bN ?_ _|refine bD ?_|refine bA ?_ _)); exact BK411.out) hb)
    replace BK442 := Aside0.mk (blk_below (g := gb442) (by (with_reducible repeat (first | refine bN ?_ _|refine bD ?_|refine bA ?_ _)); exact BK442.out) hb)
    replace HB := Aside0.mk (below_step hB hb)
    (try clear hb)
    (try clear hb2)
    (try clear hk)
    (try clear hi)
    (try clear ho0)
    (try clear ho1)
    (try clear ho2)
    obtain ⟨Ao32, co32, eo32⟩ := Kd.R_slice HO450.out
    (first | subst eo32 | (injection eo32 with f1_ f2_ f3_; have f4_ := f1_.symm; have f5_ := f3_.symm; clear f1_ f2_ f3_; subst f4_; subst f5_))
    obtain ⟨Ao33, co33, eo33⟩ := Kd.R_slice HO453.out
    (first | subst eo33 | (injection eo33 with f1_ f2_ f3_; have f4_ := f1_.symm; have f5_ := f3_.symm; clear f1_ f2_ f3_; subst f4_; subst f5_))
    obtain ⟨Ao34, co34, eo34⟩ := Kd.R_slice HO456.out
    (first | subst eo34 | (injection eo34 with f1_ f2_ f3_; have f4_ := f1_.symm; have f5_ := f3_.symm; clear f1_ f2_ f3_; subst f4_; subst f5_))
    refine hK.out _ _ ⟨(blk_cell BK442.out 0).trans rfl, (blk_cell BK442.out 1).trans rfl, (blk_cell BK442.out 2).trans rfl, (blk_cell BK442.out 3).trans rfl, (blk_cell BK442.out 4).trans rfl, (blk_cell BK442.out 5).trans rfl, (blk_cell BK442.out 6).trans rfl, (blk_cell BK442.out 7).trans rfl, (blk_cell BK411.out 0).trans rfl, (blk_cell BK411.out 1).trans rfl, (blk_cell BK411.out 2).trans rfl, (blk_cell BK411.out 3).trans rfl, (blk_cell BK411.out 4).trans rfl, (blk_cell BK411.out 5).trans rfl, (blk_cell BK411.out 6).trans rfl, (blk_cell BK411.out 7).trans rfl⟩ (fun hHeld => ?_)
    clear hK K
    refine norm_ (a' := ?_) ?_ ?_
    rotate_left
    ·show Act.put _ (some 24) _ = _
     simp only [Act.put, sT, sZ, sS, i64_w, i32_w]
     rfl
    refine one_ (i := 3) (N := some 25) (tf 4 1) rfl rfl (by kernel_rfl) (by decide) (fun K hK => ?_)
    refine goes_ Tryz.func32 (by kernel_rfl) rfl #[.agg #[.int .i64 t428, .string t429, .string t430, .string t431, .slice Ao22 t432.length co22, .slice Ao23 t435.length co23, .slice Ao24 t438.length co24, .string t441], .agg #[.int .i64 t444, .string t445, .string t446, .string t447, .slice Ao32 t448.length co32, .slice Ao33 t451.length co33, .slice Ao34 t454.length co34, .string t457]] (by rfl) rfl rfl mA ?_
    with_reducible refine (laws_eqNode.calls k t428 t429 t430 t431 _ _ t432 _ _ t435 _ _ t438 t441 t444 t445 t446 t447 _ _ t448 _ _ t451 _ _ t454 t457 true _ ?side1 ?side2 ?side3 ?side4 ?side5 ?side6 ?side7 ?side8 ?side9 ?side10 ?side11 ?side12 A28.out).mono ?_
    (case side1 => repeat (first | exact (Kd.R_reads' HO434.out).2.2 | (with_reducible refine Kd.C_alloc ?_ _) | (with_reducible refine Kd.C_drewN ?_ _) | (with_reducible refine Kd.C_drew ?_)))
    (case side2 => exact (Kd.R_reads' HO434.out).2.1)
    (case side3 => repeat (first | exact (Kd.R_reads' HO437.out).2.2 | (with_reducible refine Kd.C_alloc ?_ _) | (with_reducible refine Kd.C_drewN ?_ _) | (with_reducible refine Kd.C_drew ?_)))
    (case side4 => exact (Kd.R_reads' HO437.out).2.1)
    (case side5 => repeat (first | exact (Kd.R_reads' HO440.out).2.2 | (with_reducible refine Kd.C_alloc ?_ _) | (with_reducible refine Kd.C_drewN ?_ _) | (with_reducible refine Kd.C_drew ?_)))
    (case side6 => exact (Kd.R_reads' HO440.out).2.1)
    (case side7 => repeat (first | exact (Kd.R_reads' HO450.out).2.2 | (with_reducible refine Kd.C_alloc ?_ _) | (with_reducible refine Kd.C_drewN ?_ _) | (with_reducible refine Kd.C_drew ?_)))
    (case side8 => exact (Kd.R_reads' HO450.out).2.1)
    (case side9 => repeat (first | exact (Kd.R_reads' HO453.out).2.2 | (with_reducible refine Kd.C_alloc ?_ _) | (with_reducible refine Kd.C_drewN ?_ _) | (with_reducible refine Kd.C_drew ?_)))
    (case side10 => exact (Kd.R_reads' HO453.out).2.1)
    (case side11 => repeat (first | exact (Kd.R_reads' HO456.out).2.2 | (with_reducible refine Kd.C_alloc ?_ _) | (with_reducible refine Kd.C_drewN ?_ _) | (with_reducible refine Kd.C_drew ?_)))
    (case side12 => exact (Kd.R_reads' HO456.out).2.1)
    rintro e w35 ⟨rfl, hb⟩
    refine ⟨_, rfl, ?_⟩
    replace HO419 := Aside0.mk (Kd.R_below (by (with_reducible repeat (first|apply rA|apply rN|apply rD)); exact HO419.out) hb)
    replace HO422 := Aside0.mk (Kd.R_below (by (with_reducible repeat (first|apply rA|apply rN|apply rD)); exact HO422.out) hb)
    replace HO425 := Aside0.mk (Kd.R_below (by (with_reducible repeat (first|apply rA|apply rN|apply rD)); exact HO425.out) hb)
    replace HO434 := Aside0.mk (Kd.R_below (by (with_reducible repeat (first|apply rA|apply rN|apply rD)); exact HO434.out) hb)
    replace HO437 := Aside0.mk (Kd.R_below (by (with_reducible repeat (first|apply rA|apply rN|apply rD)); exact HO437.out) hb)
    replace HO440 := Aside0.mk (Kd.R_below (by (with_reducible repeat (first|apply rA|apply rN|apply rD)); exact HO440.out) hb)
    replace HO450 := Aside0.mk (Kd.R_below (by (with_reducible repeat (first|apply rA|apply rN|apply rD)); exact HO450.out) hb)
    replace HO453 := Aside0.mk (Kd.R_below (by (with_reducible repeat (first|apply rA|apply rN|apply rD)); exact HO453.out) hb)
    replace HO456 := Aside0.mk (Kd.R_below (by (with_reducible repeat (first|apply rA|apply rN|apply rD)); exact HO456.out) hb)
    replace BK411 := Aside0.mk (blk_below (g := gb411) (by (with_reducible repeat (first | refine bN ?_ _|refine bD ?_|refine bA ?_ _)); exact BK411.out) hb)
    replace BK442 := Aside0.mk (blk_below (g := gb442) (by (with_reducible repeat (first | refine bN ?_ _|refine bD ?_|refine bA ?_ _)); exact BK442.out) hb)
    replace HB := Aside0.mk (below_step hB hb)
    (try clear hb)
    (try clear hb2)
    (try clear hk)
    (try clear hi)
    refine hK.out _ _ ⟨(blk_cell BK442.out 0).trans rfl, (blk_cell BK442.out 1).trans rfl, (blk_cell BK442.out 2).trans rfl, (blk_cell BK442.out 3).trans rfl, (blk_cell BK442.out 4).trans rfl, (blk_cell BK442.out 5).trans rfl, (blk_cell BK442.out 6).trans rfl, (blk_cell BK442.out 7).trans rfl, (blk_cell BK411.out 0).trans rfl, (blk_cell BK411.out 1).trans rfl, (blk_cell BK411.out 2).trans rfl, (blk_cell BK411.out 3).trans rfl, (blk_cell BK411.out 4).trans rfl, (blk_cell BK411.out 5).trans rfl, (blk_cell BK411.out 6).trans rfl, (blk_cell BK411.out 7).trans rfl⟩ (fun hHeld => ?_)
    clear hK K
    refine norm_ (a' := ?_) ?_ ?_
    rotate_left
    ·show Act.put _ (some 25) _ = _
     simp only [Act.put, sT, sZ, sS, i64_w, i32_w]
     rfl
    refine pure_ (i := 4) (N := some 26) (v := ?_) (a' := ?_) (tf 5 0) rfl rfl (by kernel_rfl) (fun _ _ _ h => h) (Or.inl ⟨by rfl, ?_⟩) ?_ ?_
    rotate_left; ·intro w'; go_simp; with_reducible rfl
    rotate_left; ·simp only [Act.put, sT, sZ, sS, i64_w, i32_w]; rfl
    refine done_ (by kernel_rfl) ?_
    try go_wp2
    go_ret
    exact ⟨rE, hB⟩
   ·rw [if_neg c29] at H
    exact absurd H (by simp)
  ·rw [if_neg c26] at H
   exact absurd H (by simp)
/-! ### spec_Apart: function 33 -/
mutual
def spec_Apart.l0 : Nat → List (S28) → Int → Int → Option (Int)
 | 0, _, _, _ => none
 | k + 1, x0, x3, x4 => if x4 < (x0.length : Int) then (spec_Apart.l1 k x0 x3 x4 true 0) else (some x3)
def spec_Apart.l1 : Nat → List (S28) → Int → Int → Bool → Int → Option (Int)
 | 0, _, _, _, _, _ => none
 | k + 1, x0, x3, x4, x5, x6 => if x6 < x4 then (if x5 = true then (if 0 ≤ x6 then (if x6 < (x0.length : Int) then ((spec_HashOf.f k ((rd_T28 x0 x6).f0) ((rd_T28 x0 x6).f1) ((rd_T28 x0 x6).f2) ((rd_T28 x0 x6).f3) ((rd_T28 x0 x6).f4) ((rd_T28 x0 x6).f5) ((rd_T28 x0 x6).f6) ((rd_T28 x0 x6).f7)).bind fun t460 => (if 0 ≤ x4 then (if x4 < (x0.length : Int) then ((spec_HashOf.f k ((rd_T28 x0 x4).f0) ((rd_T28 x0 x4).f1) ((rd_T28 x0 x4).f2) ((rd_T28 x0 x4).f3) ((rd_T28 x0 x4).f4) ((rd_T28 x0 x4).f5) ((rd_T28 x0 x4).f6) ((rd_T28 x0 x4).f7)).bind fun t462 => (spec_Apart.l1 k x0 x3 x4 (t460 != t462) (wrap64 (x6 + 1)))) else (none)) else (none))) else (none)) else (none)) else (spec_Apart.l1 k x0 x3 x4 false (wrap64 (x6 + 1)))) else (if x5 = true then (spec_Apart.l0 k x0 (wrap64 (x3 + 1)) (wrap64 (x4 + 1))) else (spec_Apart.l0 k x0 x3 (wrap64 (x4 + 1))))
end
def spec_Apart.f (k : Nat) (l0 : List (S28)) : Option (Int) := spec_Apart.l0 k l0 0 0
def spec_Apart.T9 : Bool × List (List Nat × List Nat) := (true, [([], []), ([0], [0]), ([1], [1]), ([1], [1]), ([2, 3, 1], [1, 2, 3]), ([4, 1], [1, 4]), ([5, 1, 1], [1, 5]), ([1], [1]), ([1], [1]), ([7, 8, 1], [1, 7, 8]), ([9, 1], [1, 9]), ([10, 6, 1], [1, 10]), ([6, 11, 1], [1, 6, 11]), ([1, 12], [1, 12]), ([13, 11, 0, 1, 2, 3, 4, 5, 6, 7, 8, 9, 10, 11, 12, 13], [0, 13])])
def spec_Apart.B9 : List Nat := [0, 1, 3, 3, 15, 31, 63, 3, 3, 387, 899, 2047, 4095, 8191, 16383]
theorem spec_Apart.tab9 : rtab .any (opsOf Tryz.f33 9) = spec_Apart.T9 := by kernel_rfl
theorem spec_Apart.bits9 : waitsOk spec_Apart.T9.2 spec_Apart.B9 = true := by kernel_rfl
theorem spec_Apart.calls (k : Nat) (A0 : Option Addr) (c0 : Nat) (l0 : List (S28)) (r : Int) (w : World) (hr0 : Kd.C k28 w A0 l0.length l0) (hc0 : l0.length ≤ c0) (h : spec_Apart.f k l0 = some r) :
  Calls Tryz.prog 33 #[.slice A0 l0.length c0] w fun e w' => e = .returned (.int .i64 r) ∧ Below w.heap.size w w' := by
 have hu28 := Tryz.underlying28
 have HR0 := Aside0.mk hr0
 have HC0 := Aside0.mk hc0
 clear hr0 hc0
 have HB := Aside0.mk (Below.refl w.heap.size w)
 have H : (spec_Apart.l0 k l0 0 0) = some r := h
 clear h
 have H' := Aside0.mk H
 clear H
 go_enter Tryz.func33, Tryz.ntmps33
 go_wp2
 go_loopg [3, 4] k (fun kq v3 v4 w' => ∃ (x3_1 : Int) (x4_1 : Int), v3 = .int .i64 x3_1 ∧ v4 = .int .i64 x4_1 ∧ Aside0 (spec_Apart.l0 kq l0 x3_1 x4_1 = some r) ∧ Aside0 (kq ≤ k) ∧ Aside0 (Below w.heap.size w w'))
 case atStart => exact ⟨(0), (0), rG, rG, H', ⟨Nat.le_refl _⟩, ⟨hB⟩⟩
 case round =>
  clear H'
  obtain ⟨x3_1, x4_1, rfl, rfl, HA, HK1, HB⟩ := hrel
  cases gk with
  | zero => exact absurd HA.out (by simp [spec_Apart.l0])
  | succ k1 =>
   have H := HA.out
   clear HA
   simp only [spec_Apart.l0] at H
   by_cases c2 : x4_1 < (l0.length : Int)
   ·rw [if_pos c2] at H
    have c2b0 : decide (x4_1 < (l0.length : Int)) = true := decide_eq_true c2
    clear c2
    have H' := Aside0.mk H
    clear H
    go_wp2
    go_loopg [5, 6] k1 (fun kq v5 v6 w' => ∃ (x5_2 : Bool) (x6_2 : Int), v5 = .bool x5_2 ∧ v6 = .int .i64 x6_2 ∧ Aside0 (spec_Apart.l1 kq l0 x3_1 x4_1 x5_2 x6_2 = some r) ∧ Aside0 (kq ≤ k1) ∧ Aside0 (Below w.heap.size w w'))
    case atStart => exact ⟨(true), (0), rG, rG, H', ⟨Nat.le_refl _⟩, ⟨hB⟩⟩
    case round =>
     clear H'
     try clear c2; try clear c2b0
     obtain ⟨x5_2, x6_2, rfl, rfl, HA, HK2, HB⟩ := hrel
     cases gk with
     | zero => exact absurd HA.out (by simp [spec_Apart.l1])
     | succ k2 =>
      have H := HA.out
      clear HA
      simp only [spec_Apart.l1] at H
      by_cases c3 : x6_2 < x4_1
      ·rw [if_pos c3] at H
       have c3b0 : decide (x6_2 < x4_1) = true := decide_eq_true c3
       clear c3
       by_cases c4 : x5_2 = true
       ·subst c4
        rw [if_pos rfl] at H
        obtain ⟨c5, H⟩ := if_som H
        have c5b0 : decide (0 ≤ x6_2) = true := decide_eq_true c5
        clear c5
        obtain ⟨c6, H⟩ := if_som H
        have c6b0 : decide (x6_2 < (l0.length : Int)) = true := decide_eq_true c6
        clear c6
        replace H := Option.bind_eq_some_iff.mp H
        obtain ⟨t460, A70, H⟩ := H
        try dsimp only at H
        have A7 := Aside0.mk A70
        clear A70
        obtain ⟨c8, H⟩ := if_som H
        have c8b0 : decide (0 ≤ x4_1) = true := decide_eq_true c8
        clear c8
        obtain ⟨c9, H⟩ := if_som H
        have c9b0 : decide (x4_1 < (l0.length : Int)) = true := decide_eq_true c9
        clear c9
        replace H := Option.bind_eq_some_iff.mp H
        obtain ⟨t462, A100, H⟩ := H
        try dsimp only at H
        have A10 := Aside0.mk A100
        clear A100
        have H' := Aside0.mk H
        clear H
        try go_wp2
        replace HB := Aside0.mk (below_drew1 HB.out)
        have p459 : 0 ≤ (x6_2 : Int) := odt
        have q459 : x6_2 < (l0.length : Int) := odt
        obtain ⟨ad459, A459_4, c459_4, A459_5, c459_5, A459_6, c459_6, e459, hx459_0, hx459_1, hx459_2, hx459_3, hx459_4, hx459_5, hx459_6, hx459_7, hl459_4, hi459_4, hl459_5, hi459_5, hl459_6, hi459_6⟩ := at_T28 HR0.out x6_2 p459 q459
        have hw459_7 := hx459_7
        have hw459_6 := hx459_6
        have hw459_5 := hx459_5
        have hw459_4 := hx459_4
        have hw459_3 := hx459_3
        have hw459_2 := hx459_2
        have hw459_1 := hx459_1
        have hw459_0 := hx459_0
        cases e459
        replace hx459_0 := pw_cell_below HB.out hx459_0
        replace hx459_1 := pw_cell_below HB.out hx459_1
        replace hx459_2 := pw_cell_below HB.out hx459_2
        replace hx459_3 := pw_cell_below HB.out hx459_3
        replace hx459_4 := pw_cell_below HB.out hx459_4
        replace hx459_5 := pw_cell_below HB.out hx459_5
        replace hx459_6 := pw_cell_below HB.out hx459_6
        replace hx459_7 := pw_cell_below HB.out hx459_7
        have HR459_4 := Aside0.mk hi459_4
        have HC459_4 := Aside0.mk hl459_4
        clear hi459_4 hl459_4
        have HR459_5 := Aside0.mk hi459_5
        have HC459_5 := Aside0.mk hl459_5
        clear hi459_5 hl459_5
        have HR459_6 := Aside0.mk hi459_6
        have HC459_6 := Aside0.mk hl459_6
        clear hi459_6 hl459_6
        replace p459 := eq_true p459
        replace q459 := eq_true q459
        have p461 : 0 ≤ (x4_1 : Int) := odt
        have q461 : x4_1 < (l0.length : Int) := odt
        obtain ⟨ad461, A461_4, c461_4, A461_5, c461_5, A461_6, c461_6, e461, hx461_0, hx461_1, hx461_2, hx461_3, hx461_4, hx461_5, hx461_6, hx461_7, hl461_4, hi461_4, hl461_5, hi461_5, hl461_6, hi461_6⟩ := at_T28 HR0.out x4_1 p461 q461
        have hw461_7 := hx461_7
        have hw461_6 := hx461_6
        have hw461_5 := hx461_5
        have hw461_4 := hx461_4
        have hw461_3 := hx461_3
        have hw461_2 := hx461_2
        have hw461_1 := hx461_1
        have hw461_0 := hx461_0
        obtain rfl : ad459 = ad461 := (by injection e461)
        replace hx461_0 := pw_cell_below HB.out hx461_0
        replace hx461_1 := pw_cell_below HB.out hx461_1
        replace hx461_2 := pw_cell_below HB.out hx461_2
        replace hx461_3 := pw_cell_below HB.out hx461_3
        replace hx461_4 := pw_cell_below HB.out hx461_4
        replace hx461_5 := pw_cell_below HB.out hx461_5
        replace hx461_6 := pw_cell_below HB.out hx461_6
        replace hx461_7 := pw_cell_below HB.out hx461_7
        have HR461_4 := Aside0.mk hi461_4
        have HC461_4 := Aside0.mk hl461_4
        clear hi461_4 hl461_4
        have HR461_5 := Aside0.mk hi461_5
        have HC461_5 := Aside0.mk hl461_5
        clear hi461_5 hl461_5
        have HR461_6 := Aside0.mk hi461_6
        have HC461_6 := Aside0.mk hl461_6
        clear hi461_6 hl461_6
        replace p461 := eq_true p461
        replace q461 := eq_true q461
        refine start_ (n := 15) (S := fun w' => w'.cell? (ad459.add ((x6_2).toNat * 8)) = some (.int .i64 ((rd_T28 l0 x6_2).f0)) ∧ w'.cell? ⟨(ad459.add ((x6_2).toNat * 8)).block, (ad459.add ((x6_2).toNat * 8)).off + 1, none⟩ = some (.string ((rd_T28 l0 x6_2).f1)) ∧ w'.cell? ⟨(ad459.add ((x6_2).toNat * 8)).block, (ad459.add ((x6_2).toNat * 8)).off + 2, none⟩ = some (.string ((rd_T28 l0 x6_2).f2)) ∧ w'.cell? ⟨(ad459.add ((x6_2).toNat * 8)).block, (ad459.add ((x6_2).toNat * 8)).off + 3, none⟩ = some (.string ((rd_T28 l0 x6_2).f3)) ∧ w'.cell? ⟨(ad459.add ((x6_2).toNat * 8)).block, (ad459.add ((x6_2).toNat * 8)).off + 4, none⟩ = some (.slice A459_4 ((rd_T28 l0 x6_2).f4).length c459_4) ∧ w'.cell? ⟨(ad459.add ((x6_2).toNat * 8)).block, (ad459.add ((x6_2).toNat * 8)).off + 5, none⟩ = some (.slice A459_5 ((rd_T28 l0 x6_2).f5).length c459_5) ∧ w'.cell? ⟨(ad459.add ((x6_2).toNat * 8)).block, (ad459.add ((x6_2).toNat * 8)).off + 6, none⟩ = some (.slice A459_6 ((rd_T28 l0 x6_2).f6).length c459_6) ∧ w'.cell? ⟨(ad459.add ((x6_2).toNat * 8)).block, (ad459.add ((x6_2).toNat * 8)).off + 7, none⟩ = some (.string ((rd_T28 l0 x6_2).f7)) ∧ w'.cell? (ad459.add ((x4_1).toNat * 8)) = some (.int .i64 ((rd_T28 l0 x4_1).f0)) ∧ w'.cell? ⟨(ad459.add ((x4_1).toNat * 8)).block, (ad459.add ((x4_1).toNat * 8)).off + 1, none⟩ = some (.string ((rd_T28 l0 x4_1).f1)) ∧ w'.cell? ⟨(ad459.add ((x4_1).toNat * 8)).block, (ad459.add ((x4_1).toNat * 8)).off + 2, none⟩ = some (.string ((rd_T28 l0 x4_1).f2)) ∧ w'.cell? ⟨(ad459.add ((x4_1).toNat * 8)).block, (ad459.add ((x4_1).toNat * 8)).off + 3, none⟩ = some (.string ((rd_T28 l0 x4_1).f3)) ∧ w'.cell? ⟨(ad459.add ((x4_1).toNat * 8)).block, (ad459.add ((x4_1).toNat * 8)).off + 4, none⟩ = some (.slice A461_4 ((rd_T28 l0 x4_1).f4).length c461_4) ∧ w'.cell? ⟨(ad459.add ((x4_1).toNat * 8)).block, (ad459.add ((x4_1).toNat * 8)).off + 5, none⟩ = some (.slice A461_5 ((rd_T28 l0 x4_1).f5).length c461_5) ∧ w'.cell? ⟨(ad459.add ((x4_1).toNat * 8)).block, (ad459.add ((x4_1).toNat * 8)).off + 6, none⟩ = some (.slice A461_6 ((rd_T28 l0 x4_1).f6).length c461_6) ∧ w'.cell? ⟨(ad459.add ((x4_1).toNat * 8)).block, (ad459.add ((x4_1).toNat * 8)).off + 7, none⟩ = some (.string ((rd_T28 l0 x4_1).f7))) (ds := []) #[false, false, false, false, false, false, false, false, false, false, false, false, false, false, false] (by kernel_rfl) rfl rfl ⟨(pw_cell_below HB.out hw459_0), (pw_cell_below HB.out hw459_1), (pw_cell_below HB.out hw459_2), (pw_cell_below HB.out hw459_3), (pw_cell_below HB.out hw459_4), (pw_cell_below HB.out hw459_5), (pw_cell_below HB.out hw459_6), (pw_cell_below HB.out hw459_7), (pw_cell_below HB.out hw461_0), (pw_cell_below HB.out hw461_1), (pw_cell_below HB.out hw461_2), (pw_cell_below HB.out hw461_3), (pw_cell_below HB.out hw461_4), (pw_cell_below HB.out hw461_5), (pw_cell_below HB.out hw461_6), (pw_cell_below HB.out hw461_7)⟩ (fun hHeld => ?_); refine with_tabW spec_Apart.tab9 spec_Apart.bits9 (fun HT_ HW_ => ?_)
        generalize wr.drew = w11 at HB HR459_4 HR459_5 HR459_6 HR461_4 HR461_5 HR461_6 hx459_0 hx459_1 hx459_2 hx459_3 hx459_4 hx459_5 hx459_6 hx459_7 hx461_0 hx461_1 hx461_2 hx461_3 hx461_4 hx461_5 hx461_6 hx461_7 hHeld ⊢
        refine pU 0 18 (tf 1 14) ?_
        refine pU 1 19 (tf 2 13) ?_
        refine pU 2 20 (tf 3 12) ?_
        refine pU 3 21 (tf 4 11) ?_
        refine pU 4 22 (tf 5 10) ?_
        refine pU 7 25 #[true, true, true, true, true, false, false, true, false, false, false, false, false, false, false] ?_
        refine pU 8 26 #[true, true, true, true, true, false, false, true, true, false, false, false, false, false, false] ?_
        refine pU 9 27 #[true, true, true, true, true, false, false, true, true, true, false, false, false, false, false] ?_
        refine take_ (i := 5) (N := some 23) (v := ?_) (a' := ?_) #[true, true, true, true, true, true, false, true, true, true, false, false, false, false, false] rfl rfl (take_ofW HT_.out HW_.out (by kernel_rfl)) (fun _ _ _ h => h) (Or.inl ⟨by rfl, ?_⟩) hHeld ?_ ?_
        rotate_left
        ·rintro w' ⟨s0, s1, s2, s3, s4, s5, s6, s7, s8, s9, s10, s11, s12, s13, s14, s15⟩
         go_simp
         with_reducible rfl
        rotate_left
        ·simp only [Act.put, sT, sZ, sS, i64_w, i32_w]
         rfl
        refine take_ (i := 10) (N := some 28) (v := ?_) (a' := ?_) #[true, true, true, true, true, true, false, true, true, true, true, false, false, false, false] rfl rfl (take_ofW HT_.out HW_.out (by kernel_rfl)) (fun _ _ _ h => h) (Or.inl ⟨by rfl, ?_⟩) hHeld ?_ ?_
        rotate_left
        ·rintro w' ⟨s0, s1, s2, s3, s4, s5, s6, s7, s8, s9, s10, s11, s12, s13, s14, s15⟩
         go_simp
         with_reducible rfl
        rotate_left
        ·simp only [Act.put, sT, sZ, sS, i64_w, i32_w]
         rfl
        refine one_ (i := 6) (N := some 24) (tf 11 4) rfl rfl (one_of HT_.out (by kernel_rfl)) (by decide) (fun K hK => ?_)
        refine goes_ Tryz.func29 (by kernel_rfl) rfl #[.agg #[.int .i64 ((rd_T28 l0 x6_2).f0), .string ((rd_T28 l0 x6_2).f1), .string ((rd_T28 l0 x6_2).f2), .string ((rd_T28 l0 x6_2).f3), .slice A459_4 ((rd_T28 l0 x6_2).f4).length c459_4, .slice A459_5 ((rd_T28 l0 x6_2).f5).length c459_5, .slice A459_6 ((rd_T28 l0 x6_2).f6).length c459_6, .string ((rd_T28 l0 x6_2).f7)]] (by rfl) rfl rfl mA ?_
        with_reducible refine (spec_HashOf.calls k2 ((rd_T28 l0 x6_2).f0) ((rd_T28 l0 x6_2).f1) ((rd_T28 l0 x6_2).f2) ((rd_T28 l0 x6_2).f3) _ _ ((rd_T28 l0 x6_2).f4) _ _ ((rd_T28 l0 x6_2).f5) _ _ ((rd_T28 l0 x6_2).f6) ((rd_T28 l0 x6_2).f7) t460 _ ?side1 ?side2 ?side3 ?side4 ?side5 ?side6 A7.out).mono ?_
        (case side1 => repeat (first | exact (Kd.C_below HR459_4.out HB.out) | (with_reducible refine Kd.C_alloc ?_ _) | (with_reducible refine Kd.C_drewN ?_ _) | (with_reducible refine Kd.C_drew ?_)))
        (case side2 => exact HC459_4.out)
        (case side3 => repeat (first | exact (Kd.C_below HR459_5.out HB.out) | (with_reducible refine Kd.C_alloc ?_ _) | (with_reducible refine Kd.C_drewN ?_ _) | (with_reducible refine Kd.C_drew ?_)))
        (case side4 => exact HC459_5.out)
        (case side5 => repeat (first | exact (Kd.C_below HR459_6.out HB.out) | (with_reducible refine Kd.C_alloc ?_ _) | (with_reducible refine Kd.C_drewN ?_ _) | (with_reducible refine Kd.C_drew ?_)))
        (case side6 => exact HC459_6.out)
        rintro e w12 ⟨rfl, hb⟩
        refine ⟨_, rfl, ?_⟩
        replace HB := Aside0.mk (below_step hB hb)
        (try clear hb)
        (try clear hb2)
        (try clear hk)
        (try clear hi)
        refine hK.out _ _ ⟨(pw_cell_below HB.out hw459_0), (pw_cell_below HB.out hw459_1), (pw_cell_below HB.out hw459_2), (pw_cell_below HB.out hw459_3), (pw_cell_below HB.out hw459_4), (pw_cell_below HB.out hw459_5), (pw_cell_below HB.out hw459_6), (pw_cell_below HB.out hw459_7), (pw_cell_below HB.out hw461_0), (pw_cell_below HB.out hw461_1), (pw_cell_below HB.out hw461_2), (pw_cell_below HB.out hw461_3), (pw_cell_below HB.out hw461_4), (pw_cell_below HB.out hw461_5), (pw_cell_below HB.out hw461_6), (pw_cell_below HB.out hw461_7)⟩ (fun hHeld => ?_)
        clear hK K
        refine norm_ (a' := ?_) ?_ ?_
        rotate_left
        ·show Act.put _ (some 24) _ = _
         simp only [Act.put, sT, sZ, sS, i64_w, i32_w]
         rfl
        refine one_ (i := 11) (N := some 29) (tf 12 3) rfl rfl (one_of HT_.out (by kernel_rfl)) (by decide) (fun K hK => ?_)
        refine goes_ Tryz.func29 (by kernel_rfl) rfl #[.agg #[.int .i64 ((rd_T28 l0 x4_1).f0), .string ((rd_T28 l0 x4_1).f1), .string ((rd_T28 l0 x4_1).f2), .string ((rd_T28 l0 x4_1).f3), .slice A461_4 ((rd_T28 l0 x4_1).f4).length c461_4, .slice A461_5 ((rd_T28 l0 x4_1).f5).length c461_5, .slice A461_6 ((rd_T28 l0 x4_1).f6).length c461_6, .string ((rd_T28 l0 x4_1).f7)]] (by rfl) rfl rfl mA ?_
        with_reducible refine (spec_HashOf.calls k2 ((rd_T28 l0 x4_1).f0) ((rd_T28 l0 x4_1).f1) ((rd_T28 l0 x4_1).f2) ((rd_T28 l0 x4_1).f3) _ _ ((rd_T28 l0 x4_1).f4) _ _ ((rd_T28 l0 x4_1).f5) _ _ ((rd_T28 l0 x4_1).f6) ((rd_T28 l0 x4_1).f7) t462 _ ?side1 ?side2 ?side3 ?side4 ?side5 ?side6 A10.out).mono ?_
        (case side1 => repeat (first | exact (Kd.C_below HR461_4.out HB.out) | (with_reducible refine Kd.C_alloc ?_ _) | (with_reducible refine Kd.C_drewN ?_ _) | (with_reducible refine Kd.C_drew ?_)))
        (case side2 => exact HC461_4.out)
        (case side3 => repeat (first | exact (Kd.C_below HR461_5.out HB.out) | (with_reducible refine Kd.C_alloc ?_ _) | (with_reducible refine Kd.C_drewN ?_ _) | (with_reducible refine Kd.C_drew ?_)))
        (case side4 => exact HC461_5.out)
        (case side5 => repeat (first | exact (Kd.C_below HR461_6.out HB.out) | (with_reducible refine Kd.C_alloc ?_ _) | (with_reducible refine Kd.C_drewN ?_ _) | (with_reducible refine Kd.C_drew ?_)))
        (case side6 => exact HC461_6.out)
        rintro e w13 ⟨rfl, hb⟩
        refine ⟨_, rfl, ?_⟩
        replace HB := Aside0.mk (below_step hB hb)
        (try clear hb)
        (try clear hb2)
        (try clear hk)
        (try clear hi)
        refine hK.out _ _ ⟨(pw_cell_below HB.out hw459_0), (pw_cell_below HB.out hw459_1), (pw_cell_below HB.out hw459_2), (pw_cell_below HB.out hw459_3), (pw_cell_below HB.out hw459_4), (pw_cell_below HB.out hw459_5), (pw_cell_below HB.out hw459_6), (pw_cell_below HB.out hw459_7), (pw_cell_below HB.out hw461_0), (pw_cell_below HB.out hw461_1), (pw_cell_below HB.out hw461_2), (pw_cell_below HB.out hw461_3), (pw_cell_below HB.out hw461_4), (pw_cell_below HB.out hw461_5), (pw_cell_below HB.out hw461_6), (pw_cell_below HB.out hw461_7)⟩ (fun hHeld => ?_)
        clear hK K
        refine norm_ (a' := ?_) ?_ ?_
        rotate_left
        ·show Act.put _ (some 29) _ = _
         simp only [Act.put, sT, sZ, sS, i64_w, i32_w]
         rfl
        refine pU 12 30 (tf 13 2) ?_
        refine pU 13 31 (tf 14 1) ?_
        refine pU 14 5 (tf 15 0) ?_
        refine done_ (done_of HT_.out (by kernel_rfl)) ?_
        try go_wp2
        go_roundg k2
        case measure => have := HK1.out; have := HK2.out; omega
        case rel => exact ⟨((t460 != t462)), (wrap64 (x6_2 + 1)), rG, rG, H', ⟨by have := HK1.out; have := HK2.out; omega⟩, ⟨hB⟩⟩
       ·replace c4 := Bool.eq_false_iff.mpr c4
        subst c4
        rw [if_neg (show ¬ (false = true) by decide)] at H
        have H' := Aside0.mk H
        clear H
        try go_wp2
        replace HB := Aside0.mk (below_drew1 HB.out)
        refine start_ (n := 15) (S := fun w' => True) (ds := []) #[false, false, false, false, false, false, false, false, false, false, false, false, false, false, false] (by kernel_rfl) rfl rfl trivial (fun hHeld => ?_); refine with_tabW spec_Apart.tab9 spec_Apart.bits9 (fun HT_ HW_ => ?_)
        generalize wr.drew = w14 at HB hHeld ⊢
        refine pU 0 18 (tf 1 14) ?_
        refine pU 1 19 (tf 2 13) ?_
        refine pV 2 20 (tf 3 12) ?_
         rfl
        refine pV 3 21 (tf 4 11) ?_
         rfl
        refine pV 4 22 (tf 5 10) ?_
         rfl
        refine pV 5 23 (tf 6 9) ?_
         rfl
        refine pV 6 24 (tf 7 8) ?_
         rfl
        refine pV 7 25 (tf 8 7) ?_
         rfl
        refine pV 8 26 (tf 9 6) ?_
         rfl
        refine pV 9 27 (tf 10 5) ?_
         rfl
        refine pV 10 28 (tf 11 4) ?_
         rfl
        refine pV 11 29 (tf 12 3) ?_
         rfl
        refine pV 12 30 (tf 13 2) ?_
         rfl
        refine pU 13 31 (tf 14 1) ?_
        refine pU 14 5 (tf 15 0) ?_
        refine done_ (done_of HT_.out (by kernel_rfl)) ?_
        try go_wp2
        go_roundg k2
        case measure => have := HK1.out; have := HK2.out; omega
        case rel => exact ⟨(false), (wrap64 (x6_2 + 1)), rG, rG, H', ⟨by have := HK1.out; have := HK2.out; omega⟩, ⟨hB⟩⟩
      ·rw [if_neg c3] at H
       have c3b0 : decide (x6_2 < x4_1) = false := decide_eq_false c3
       clear c3
       by_cases c15 : x5_2 = true
       ·subst c15
        rw [if_pos rfl] at H
        have H' := Aside0.mk H
        clear H
        go_wp2
        go_roundg k2
        case measure => have := HK1.out; have := HK2.out; omega
        case rel => exact ⟨(wrap64 (x3_1 + 1)), (wrap64 (x4_1 + 1)), rG, rG, H', ⟨by have := HK1.out; have := HK2.out; omega⟩, ⟨hB⟩⟩
       ·replace c15 := Bool.eq_false_iff.mpr c15
        subst c15
        rw [if_neg (show ¬ (false = true) by decide)] at H
        have H' := Aside0.mk H
        clear H
        go_wp2
        go_roundg k2
        case measure => have := HK1.out; have := HK2.out; omega
        case rel => exact ⟨(x3_1), (wrap64 (x4_1 + 1)), rG, rG, H', ⟨by have := HK1.out; have := HK2.out; omega⟩, ⟨hB⟩⟩
   ·rw [if_neg c2] at H
    have c2b0 : decide (x4_1 < (l0.length : Int)) = false := decide_eq_false c2
    clear c2
    obtain rfl := Option.some.inj H
    go_wp2
    go_ret
    exact ⟨rE, hB⟩

/-! ### slices_Index_int_int: function 101 -/
def slices_Index_int_int.l0 : Nat → List Int → Int → Int → Int → Option (Int)
 | 0, _, _, _, _ => none
 | k + 1, x0, x1, x7, x8 => if x8 < x7 then (if 0 ≤ x8 then (if x8 < (x0.length : Int) then (if x1 = (rd x0 x8) then (some x8) else (slices_Index_int_int.l0 k x0 x1 x7 (wrap64 (x8 + 1)))) else (none)) else (none)) else (some (-1))
def slices_Index_int_int.f (k : Nat) (l0 : List Int) (a1 : Int) : Option (Int) := slices_Index_int_int.l0 k l0 a1 (l0.length : Int) 0
theorem slices_Index_int_int.calls (k : Nat) (A0 : Option Addr) (c0 : Nat) (l0 : List Int) (a1 : Int) (r : Int) (w : World) (hr0 : Kd.C (Kd.int .i64) w A0 l0.length l0) (hc0 : l0.length ≤ c0) (h : slices_Index_int_int.f k l0 a1 = some r) :
  Calls Tryz.prog 101 #[.slice A0 l0.length c0, .int .i64 a1] w fun e w' => e = .returned (.int .i64 r) ∧ Drawn0 w w' := by
 have HR0 := Aside0.mk hr0
 have HC0 := Aside0.mk hc0
 clear hr0 hc0
 have H : (slices_Index_int_int.l0 k l0 a1 (l0.length : Int) 0) = some r := h
 clear h
 have H' := Aside0.mk H
 clear H
 go_enter Tryz.func101, Tryz.ntmps101
 go_wp2
 go_loopg [8] k (fun kq v8 w' => ∃ (x8_1 : Int), v8 = .int .i64 x8_1 ∧ Aside0 (slices_Index_int_int.l0 kq l0 a1 (l0.length : Int) x8_1 = some r) ∧ Aside0 (kq ≤ k) ∧ Drawn0 w w')
 case atStart => exact ⟨(0), rG, H', ⟨Nat.le_refl _⟩, by repeat (first | exact Drawn0.refl _ | apply Drawn0.step)⟩
 case round =>
  clear H'
  obtain ⟨x8_1, rfl, HA, HK1, ⟨m1, rfl⟩⟩ := hrel
  cases gk with
  | zero => exact absurd HA.out (by simp [slices_Index_int_int.l0])
  | succ k1 =>
   have H := HA.out
   clear HA
   simp only [slices_Index_int_int.l0] at H
   by_cases c3 : x8_1 < (l0.length : Int)
   ·rw [if_pos c3] at H
    have c3b0 : decide (x8_1 < (l0.length : Int)) = true := decide_eq_true c3
    clear c3
    obtain ⟨c4, H⟩ := if_som H
    have c4b0 : decide (0 ≤ x8_1) = true := decide_eq_true c4
    clear c4
    obtain ⟨c5, H⟩ := if_som H
    have c5b0 : decide (x8_1 < (l0.length : Int)) = true := decide_eq_true c5
    clear c5
    by_cases c6 : a1 = (rd l0 x8_1)
    ·rw [if_pos c6] at H
     obtain ⟨c6b0, c6b1⟩ := eqT c6
     clear c6
     obtain rfl := Option.some.inj H
     have p463 : 0 ≤ (x8_1 : Int) := odt
     have q463 : x8_1 < (l0.length : Int) := odt
     obtain ⟨ad463, e463, hx463_0⟩ := Kd.at_int HR0.out x8_1 p463 q463
     cases e463
     replace p463 := eq_true p463
     replace q463 := eq_true q463
     go_wp2
     go_ret
     exact ⟨by first | rfl | (simp; done) | (simp [*]; done), by repeat (first | exact Drawn0.refl _ | apply Drawn0.step)⟩
    ·rw [if_neg c6] at H
     obtain ⟨c6b0, c6b1⟩ := eqF c6
     have H' := Aside0.mk H
     clear H
     have p463 : 0 ≤ (x8_1 : Int) := odt
     have q463 : x8_1 < (l0.length : Int) := odt
     obtain ⟨ad463, e463, hx463_0⟩ := Kd.at_int HR0.out x8_1 p463 q463
     cases e463
     replace p463 := eq_true p463
     replace q463 := eq_true q463
     go_wp2
     go_roundg k1
     case measure => have := HK1.out; omega
     case rel => exact ⟨(wrap64 (x8_1 + 1)), rG, H', ⟨by have := HK1.out; omega⟩, by repeat (first | exact Drawn0.refl _ | apply Drawn0.step)⟩
   ·rw [if_neg c3] at H
    have c3b0 : decide (x8_1 < (l0.length : Int)) = false := decide_eq_false c3
    clear c3
    obtain rfl := Option.some.inj H
    go_wp2
    go_ret
    exact ⟨by first | rfl | (simp; done) | (simp [*]; done), by repeat (first | exact Drawn0.refl _ | apply Drawn0.step)⟩

/-! ### slices_Contains_int_int: function 67 -/
def slices_Contains_int_int.f (k : Nat) (l0 : List Int) (a1 : Int) : Option (Bool) := (slices_Index_int_int.f k l0 a1).bind fun t464 => (some (decide (t464 ≥ 0)))
theorem slices_Contains_int_int.calls (k : Nat) (A0 : Option Addr) (c0 : Nat) (l0 : List Int) (a1 : Int) (r : Bool) (w : World) (hr0 : Kd.C (Kd.int .i64) w A0 l0.length l0) (hc0 : l0.length ≤ c0) (h : slices_Contains_int_int.f k l0 a1 = some r) :
  Calls Tryz.prog 67 #[.slice A0 l0.length c0, .int .i64 a1] w fun e w' => e = .returned (.bool r) ∧ Drawn0 w w' := by
 have HR0 := Aside0.mk hr0
 have HC0 := Aside0.mk hc0
 clear hr0 hc0
 have H : ((slices_Index_int_int.f k l0 a1).bind fun t464 => (some (decide (t464 ≥ 0)))) = some r := h
 clear h
 replace H := Option.bind_eq_some_iff.mp H
 obtain ⟨t464, A30, H⟩ := H
 try dsimp only at H
 have A3 := Aside0.mk A30
 clear A30
 obtain rfl := Option.some.inj H
 go_enter Tryz.func67, Tryz.ntmps67
 go_wp2_with (first | ((with_reducible refine gate_callee (f := 101) rfl ?_); refine goesL_ (some 7) rfl rfl Tryz.func101 (by kernel_rfl) rfl #[.slice A0 l0.length c0, .int .i64 a1] rfl mA ?_; (with_reducible refine (slices_Index_int_int.calls k _ _ l0 a1 t464 _ ?side1 ?side2 A3.out).mono ?_); (case side1 => repeat (first | exact HR0.out | (with_reducible refine Kd.C_alloc ?_ _) | (with_reducible refine Kd.C_drewN ?_ _) | (with_reducible refine Kd.C_drew ?_))); (case side2 => exact HC0.out); rintro e w' ⟨rfl, ⟨nd, rfl⟩⟩; refine ⟨_, rfl, ?_⟩))
 go_ret
 exact ⟨by first | rfl | (simp; done) | (simp [*]; done), by repeat (first | exact Drawn0.refl _ | apply Drawn0.step)⟩

end Go.Proofs.YtalionlkjdgciaaGreatDoor.PA
