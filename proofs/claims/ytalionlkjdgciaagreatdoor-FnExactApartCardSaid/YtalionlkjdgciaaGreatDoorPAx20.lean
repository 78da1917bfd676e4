-- Written by the session's program hprint.py, over the kit's print program. Lean checks it.
import Derived.Test.YtalionlkjdgciaaGreatDoorPAx0
import Derived.Test.YtalionlkjdgciaaGreatDoorPAx1
import Derived.Test.YtalionlkjdgciaaGreatDoorPAx2
import Derived.Test.YtalionlkjdgciaaGreatDoorPAx3
import Derived.Test.YtalionlkjdgciaaGreatDoorPAx18
import Derived.Test.YtalionlkjdgciaaGreatDoorPAx19
namespace Go.Proofs.YtalionlkjdgciaaGreatDoor.PA
open Go.RowKit Go.Proofs.YtalionlkjdgciaaGreatDoorW.PrintWords Go.Proofs.YtalionlkjdgciaaGreatDoorW.PrintLast Go.Proofs.YtalionlkjdgciaaGreatDoorW.PrintMore
attribute [local go_sem] max2_int min2_int max_two min_two max_three min_three max_four min_four   -- for this text's walks alone
set_option linter.unusedVariables false
set_option linter.unusedSimpArgs false
set_option maxHeartbeats 8000000
set_option maxRecDepth 100000

/-! ### impl_Apart: function 34 -/
def impl_Apart.l0 : Nat → List Int → List (S28) → Int → Int → Option (Int)
 | 0, _, _, _, _ => none
 | k + 1, x3, x8, x9, x10 => if x10 < x9 then (if 0 ≤ x10 then (if x10 < (x8.length : Int) then ((impl_HashOf.f k ((rd_T28 x8 x10).f0) ((rd_T28 x8 x10).f1) ((rd_T28 x8 x10).f2) ((rd_T28 x8 x10).f3) ((rd_T28 x8 x10).f4) ((rd_T28 x8 x10).f5) ((rd_T28 x8 x10).f6) ((rd_T28 x8 x10).f7)).bind fun t470 => ((slices_Contains_int_int.f k x3 t470).bind fun t471 => (if t471 = true then (impl_Apart.l0 k x3 x8 x9 (wrap64 (x10 + 1))) else (if x3.length < 17592186044416 then (impl_Apart.l0 k (x3 ++ [t470]) x8 x9 (wrap64 (x10 + 1))) else (none))))) else (none)) else (none)) else (some (x3.length : Int))
def impl_Apart.f (k : Nat) (l0 : List (S28)) : Option (Int) := impl_Apart.l0 k (([] : List Int)) l0 (l0.length : Int) 0
theorem impl_Apart.calls (k : Nat) (A0 : Option Addr) (c0 : Nat) (l0 : List (S28)) (r : Int) (w : World) (hr0 : Kd.C k28 w A0 l0.length l0) (hc0 : l0.length ≤ c0) (hTab : Tabs w) (h : impl_Apart.f k l0 = some r) :
  Calls Tryz.prog 34 #[.slice A0 l0.length c0] w fun e w' => e = .returned (.int .i64 r) ∧ Below w.heap.size w w' := by
 have HT := Aside0.mk hTab
 clear hTab
 have hu28 := Tryz.underlying28
 have HR0 := Aside0.mk hr0
 have HC0 := Aside0.mk hc0
 clear hr0 hc0
 have HB := Aside0.mk (Below.refl w.heap.size w)
 have H : (impl_Apart.l0 k (([] : List Int)) l0 (l0.length : Int) 0) = some r := h
 clear h
 obtain ⟨y465, hy465⟩ : ∃ y_ : List Int, y_ = (([] : List Int)) := ⟨_, rfl⟩
 replace H : (impl_Apart.l0 k y465 l0 (l0.length : Int) 0) = some r := by first | (rw [hy465]; with_reducible exact H) | (have H2_ := (Option.bind_some _ _).symm.trans H; rw [hy465]; with_reducible exact H2_) | (have H2_ := (Option.bind_some _ _).symm.trans H; with_reducible exact H2_) | with_reducible exact H | (rw [hy465]; exact H) | exact H
 have Ny465 := Aside0.mk hy465
 clear hy465
 have H' := Aside0.mk H
 clear H
 go_enter Tryz.func34, Tryz.ntmps34
 go_wp2_with (first | ((with_reducible refine gate_dst (N := 7) rfl ?_); refine Kd.R_lit (Kd.int .i64) _ 3 ?hg (N := 7) ?hd (xs := ([] : List Int)) (inner := []) (ok := fun _ => True) (okp := fun _ => True) ?hr ?hp (fun _ hk => hk) trivial (Below.refl _ _) (Nat.le_refl _) (by simp) ?_; (case hd => rfl); (case hg => rfl); (case hr => first | (go_simp; done) | (go_simp; rfl)); (case hp => exact (Reps.none _ _)); intro v466 w2 ho3 hb hg_ hnew_; clear hg_ hnew_; (first | rw [← Ny465.out] at ho3 | (simp only [Int.reduceToNat] at ho3; rw [← Ny465.out] at ho3)); have HO467 := Aside0.mk (Kd.R_lower ho3 (below_size hB)); replace HB := Aside0.mk (below_step hB hb); clear hb ho3))
 go_loopg [3, 10] k (fun kq v3 v10 w' => ∃ (x3_1 : List Int) (x10_1 : Int), v10 = .int .i64 x10_1 ∧ Aside0 (impl_Apart.l0 kq x3_1 l0 (l0.length : Int) x10_1 = some r) ∧ Aside0 (kq ≤ k) ∧ Aside0 (Kd.R (Kd.int .i64) 3 w' w.heap.size (fun _ => True) v3 x3_1) ∧ Aside0 (Below w.heap.size w w'))
 case atStart => exact ⟨(y465), (0), rG, H', ⟨Nat.le_refl _⟩, ⟨by (with_reducible repeat (first|apply rA|apply rN|apply rD)); exact HO467.out⟩, ⟨hB⟩⟩
 case round =>
  clear H'
  obtain ⟨x3_1, x10_1, rfl, HA, HK1, HO_3, HB⟩ := hrel
  cases gk with
  | zero => exact absurd HA.out (by simp [impl_Apart.l0])
  | succ k1 =>
   have H := HA.out
   clear HA
   simp only [impl_Apart.l0] at H
   by_cases c4 : x10_1 < (l0.length : Int)
   ·rw [if_pos c4] at H
    have c4b0 : decide (x10_1 < (l0.length : Int)) = true := decide_eq_true c4
    clear c4
    obtain ⟨c5, H⟩ := if_som H
    have c5b0 : decide (0 ≤ x10_1) = true := decide_eq_true c5
    clear c5
    obtain ⟨c6, H⟩ := if_som H
    have c6b0 : decide (x10_1 < (l0.length : Int)) = true := decide_eq_true c6
    clear c6
    replace H := Option.bind_eq_some_iff.mp H
    obtain ⟨t470, A70, H⟩ := H
    try dsimp only at H
    have A7 := Aside0.mk A70
    clear A70
    replace H := Option.bind_eq_some_iff.mp H
    obtain ⟨t471, A80, H⟩ := H
    try dsimp only at H
    have A8 := Aside0.mk A80
    clear A80
    have p468 : 0 ≤ (x10_1 : Int) := odt
    have q468 : x10_1 < (l0.length : Int) := odt
    obtain ⟨ad468, A468_4, c468_4, A468_5, c468_5, A468_6, c468_6, e468, hx468_0, hx468_1, hx468_2, hx468_3, hx468_4, hx468_5, hx468_6, hx468_7, hl468_4, hi468_4, hl468_5, hi468_5, hl468_6, hi468_6⟩ := at_T28 HR0.out x10_1 p468 q468
    cases e468
    replace hx468_0 := pw_cell_below HB.out hx468_0
    replace hx468_1 := pw_cell_below HB.out hx468_1
    replace hx468_2 := pw_cell_below HB.out hx468_2
    replace hx468_3 := pw_cell_below HB.out hx468_3
    replace hx468_4 := pw_cell_below HB.out hx468_4
    replace hx468_5 := pw_cell_below HB.out hx468_5
    replace hx468_6 := pw_cell_below HB.out hx468_6
    replace hx468_7 := pw_cell_below HB.out hx468_7
    have HR468_4 := Aside0.mk hi468_4
    have HC468_4 := Aside0.mk hl468_4
    clear hi468_4 hl468_4
    have HR468_5 := Aside0.mk hi468_5
    have HC468_5 := Aside0.mk hl468_5
    clear hi468_5 hl468_5
    have HR468_6 := Aside0.mk hi468_6
    have HC468_6 := Aside0.mk hl468_6
    clear hi468_6 hl468_6
    replace p468 := eq_true p468
    replace q468 := eq_true q468
    go_wp2_with (first | ((with_reducible refine gate_dst (N := 5) rfl ?_); refine box_event ?hg (N := 5) ?hd (cs := #[.int .i64 0, .string (⟨#[]⟩ : ByteArray), .string (⟨#[]⟩ : ByteArray), .string (⟨#[]⟩ : ByteArray), .slice none 0 0, .slice none 0 0, .slice none 0 0, .string (⟨#[]⟩ : ByteArray)]) (t := 28) ?hr ?_; (case hd => rfl); (case hg => rfl); (case hr => first | (go_simp; done) | (go_simp; rfl)); intro gb469 hg w9 hbox hb; replace HO_3 := Aside0.mk (Kd.R_below (by (with_reducible repeat (first|apply rA|apply rN|apply rD)); exact HO_3.out) hb); have BK469 := Aside0.mk (hbox); have GW469 := Aside0.mk ((by rw [hg]; exact (below_size hB) : w.heap.size ≤ gb469)); have GE469 := Aside0.mk ((by rw [hg]; exact (below_size hB) : w.heap.size ≤ gb469)); replace HB := Aside0.mk (below_step hB hb); clear hb hbox hg; obtain ⟨hcz10_0, hcz10_1, hcz10_2, hcz10_3, hcz10_4, hcz10_5, hcz10_6, hcz10_7⟩ := bc8 BK469.out; obtain ⟨hfz10_0, hfz10_1, hfz10_2, hfz10_3, hfz10_4, hfz10_5, hfz10_6, hfz10_7⟩ := bf8 BK469.out) | ((with_reducible refine gate_callee (f := 31) rfl ?_); refine goesL_ (some 15) rfl rfl Tryz.func31 (by kernel_rfl) rfl #[.agg #[.int .i64 ((rd_T28 l0 x10_1).f0), .string ((rd_T28 l0 x10_1).f1), .string ((rd_T28 l0 x10_1).f2), .string ((rd_T28 l0 x10_1).f3), .slice A468_4 ((rd_T28 l0 x10_1).f4).length c468_4, .slice A468_5 ((rd_T28 l0 x10_1).f5).length c468_5, .slice A468_6 ((rd_T28 l0 x10_1).f6).length c468_6, .string ((rd_T28 l0 x10_1).f7)]] rfl mA ?_; (with_reducible refine (impl_HashOf.calls k1 ((rd_T28 l0 x10_1).f0) ((rd_T28 l0 x10_1).f1) ((rd_T28 l0 x10_1).f2) ((rd_T28 l0 x10_1).f3) _ _ ((rd_T28 l0 x10_1).f4) _ _ ((rd_T28 l0 x10_1).f5) _ _ ((rd_T28 l0 x10_1).f6) ((rd_T28 l0 x10_1).f7) t470 _ ?side1 ?side2 ?side3 ?side4 ?side5 ?side6 ?tabs A7.out).mono ?_); (case tabs => first | exact Tabs.below HT.out hB | (repeat (first | exact HT.out | (with_reducible refine Tabs.drewN ?_ _) | (with_reducible refine Tabs.drew ?_) | (with_reducible refine Tabs.alloc ?_ _)))); (case side1 => exact Kd.C_below HR468_4.out hB); (case side2 => exact HC468_4.out); (case side3 => exact Kd.C_below HR468_5.out hB); (case side4 => exact HC468_5.out); (case side5 => exact Kd.C_below HR468_6.out hB); (case side6 => exact HC468_6.out); rintro e w11 ⟨rfl, hb⟩; refine ⟨_, rfl, ?_⟩; replace HO_3 := Aside0.mk (Kd.R_below (by (with_reducible repeat (first|apply rA|apply rN|apply rD)); exact (Kd.R_mono (Kd.R_far (p := ⟨gb469, 7, none⟩) (Kd.R_far (p := ⟨gb469, 6, none⟩) (Kd.R_far (p := ⟨gb469, 5, none⟩) (Kd.R_far (p := ⟨gb469, 4, none⟩) (Kd.R_far (p := ⟨gb469, 3, none⟩) (Kd.R_far (p := ⟨gb469, 2, none⟩) (Kd.R_far (p := ⟨gb469, 1, none⟩) (Kd.R_far (p := ⟨gb469, 0, none⟩) (Kd.R_types HO_3.out BK469.out (by decide)) (fun _ hk => hk.2) (.int .i64 ((rd_T28 l0 x10_1).f0))) (fun _ hk => hk.2) (.string ((rd_T28 l0 x10_1).f1))) (fun _ hk => hk.2) (.string ((rd_T28 l0 x10_1).f2))) (fun _ hk => hk.2) (.string ((rd_T28 l0 x10_1).f3))) (fun _ hk => hk.2) (.slice A468_4 ((rd_T28 l0 x10_1).f4).length c468_4)) (fun _ hk => hk.2) (.slice A468_5 ((rd_T28 l0 x10_1).f5).length c468_5)) (fun _ hk => hk.2) (.slice A468_6 ((rd_T28 l0 x10_1).f6).length c468_6)) (fun _ hk => hk.2) (.string ((rd_T28 l0 x10_1).f7))) (fun _ h_ => h_.1))) hb); replace BK469 := Aside0.mk (blk_below (g := gb469) (by (with_reducible repeat (first | refine bN ?_ _|refine bD ?_|refine bA ?_ _)); exact put8 (by (with_reducible repeat (first | refine bN ?_ _|refine bD ?_|refine bA ?_ _)); exact BK469.out)) hb); replace HB := Aside0.mk (below_step hB hb); (try clear hb); (try clear hb2); (try clear hk); (try clear hi); obtain ⟨Ao12, co12, eo12⟩ := Kd.R_slice HO_3.out; subst eo12) | ((with_reducible refine gate_callee (f := 67) rfl ?_); refine goesL_ (some 18) rfl rfl Tryz.func67 (by kernel_rfl) rfl #[.slice Ao12 x3_1.length co12, .int .i64 t470] rfl mA ?_; (with_reducible refine (slices_Contains_int_int.calls k1 _ _ x3_1 t470 t471 _ ?side1 ?side2 A8.out).mono ?_); (case side1 => repeat (first | exact (Kd.R_reads' HO_3.out).2.2 | (with_reducible refine Kd.C_alloc ?_ _) | (with_reducible refine Kd.C_drewN ?_ _) | (with_reducible refine Kd.C_drew ?_))); (case side2 => exact (Kd.R_reads' HO_3.out).2.1); rintro e w' ⟨rfl, ⟨nd, rfl⟩⟩; refine ⟨_, rfl, ?_⟩; refine halt_ ?_; intro q_ hq_))
    obtain ⟨rfl⟩ := hq_
    by_cases c13 : t471 = true
    ·subst c13
     rw [if_pos rfl] at H
     have H' := Aside0.mk H
     clear H
     go_wp2
     go_roundg k1
     case measure => have := HK1.out; omega
     case rel => exact ⟨(x3_1), (wrap64 (x10_1 + 1)), rG, H', ⟨by have := HK1.out; omega⟩, ⟨by (with_reducible repeat (first|apply rA|apply rN|apply rD)); exact HO_3.out⟩, ⟨hB⟩⟩
    ·replace c13 := Bool.eq_false_iff.mpr c13
     subst c13
     rw [if_neg (show ¬ (false = true) by decide)] at H
     obtain ⟨c14, H⟩ := if_som H
     have LMc14 := Aside0.mk c14
     clear c14
     obtain ⟨y472, hy472⟩ : ∃ y_ : List Int, y_ = (x3_1 ++ [t470]) := ⟨_, rfl⟩
     replace H : (impl_Apart.l0 k1 y472 l0 (l0.length : Int) (wrap64 (x10_1 + 1))) = some r := by first | (rw [hy472]; with_reducible exact H) | (have H2_ := (Option.bind_some _ _).symm.trans H; rw [hy472]; with_reducible exact H2_) | (have H2_ := (Option.bind_some _ _).symm.trans H; with_reducible exact H2_) | with_reducible exact H | (rw [hy472]; exact H) | exact H
     have Ny472 := Aside0.mk hy472
     clear hy472
     have H' := Aside0.mk H
     clear H
     go_wp2_with (first | ((with_reducible refine gate_builtin (b := .append) (xs := #[.tmp 20, .tmp 22]) rfl ?_); at_builtin; refine Kd.R_append (Kd.int .i64) (w0 := w) w.heap.size rfl (.tmp 20) (.tmp 22) 82 3 (.int .i64 0) 8 rfl Tryz.underlying82 info3 rfl (by decide) (by omega) (.slice Ao12 x3_1.length co12) x3_1 t470 [.int .i64 t470] (fun _ => True) (fun _ => False) rfl rfl ?aP (fun _ hk => hk.elim) ?aF ?aO ?aB ?aS ?aL ?_; (case aP => exact rfl); (case aB => exact hB); (case aF => exact (fun _ _ => trivial)); (case aO => exact (by (with_reducible repeat (first|apply rA|apply rN|apply rD)); exact HO_3.out)); (case aS => exact (below_size hB)); (case aL => have := LMc14.out; omega); intro v473 w15 ho hb hg hat; rw [← Ny472.out] at ho; replace BK469 := Aside0.mk (blk_grown (g := gb469) (by (with_reducible repeat (first | refine bN ?_ _|refine bD ?_|refine bA ?_ _)); exact BK469.out) hg (Kd.R_ne HO_3.out BK469.out (by decide))); replace HB := Aside0.mk (hb); have HO474 := Aside0.mk (ho); clear HO_3; clear ho hb hg hat))
     go_roundg k1
     case measure => have := HK1.out; omega
     case rel => exact ⟨(y472), (wrap64 (x10_1 + 1)), rG, H', ⟨by have := HK1.out; omega⟩, ⟨by (with_reducible repeat (first|apply rA|apply rN|apply rD)); exact HO474.out⟩, ⟨hB⟩⟩
   ·rw [if_neg c4] at H
    have c4b0 : decide (x10_1 < (l0.length : Int)) = false := decide_eq_false c4
    clear c4
    obtain rfl := Option.some.inj H
    obtain ⟨Ao16, co16, eo16⟩ := Kd.R_slice HO_3.out
    subst eo16
    go_wp2
    go_ret
    exact ⟨rE, hB⟩

/-! ### laws_FnExactApart: function 6 -/
def laws_FnExactApart.f (k : Nat) (l0 : List (S47)) : Option (Bool) := (laws_szNodeS.f k l0 1048576).bind fun t475 => (if t475 < 0 then (some true) else ((laws_toNodeS.f k l0).bind fun t476 => ((spec_Apart.f k t476).bind fun t479 => ((laws_toNodeS.f k l0).bind fun t480 => ((impl_Apart.f k t480).bind fun t483 => (if t483 = t479 then ((laws_toNodeS.f k l0).bind fun t484 => ((laws_eqNodeS.f k t480 t484).bind fun t487 => (if t487 = true then (some true) else (some false)))) else (some false)))))))
theorem laws_FnExactApart.calls (k : Nat) (A0 : Option Addr) (c0 : Nat) (l0 : List (S47)) (r_ : Bool) (w : World) (hr0 : Kd.C k47 w A0 l0.length l0) (hc0 : l0.length ≤ c0) (hTab : Tabs w) (h : laws_FnExactApart.f k l0 = some true) :
  Calls Tryz.prog 6 #[.slice A0 l0.length c0] w fun e w' => e = .returned (.bool true) ∧ Below w.heap.size w w' := by
 have HT := Aside0.mk hTab
 clear hTab
 have HR0 := Aside0.mk hr0
 have HC0 := Aside0.mk hc0
 clear hr0 hc0
 have HB := Aside0.mk (Below.refl w.heap.size w)
 have H : ((laws_szNodeS.f k l0 1048576).bind fun t475 => (if t475 < 0 then (some true) else ((laws_toNodeS.f k l0).bind fun t476 => ((spec_Apart.f k t476).bind fun t479 => ((laws_toNodeS.f k l0).bind fun t480 => ((impl_Apart.f k t480).bind fun t483 => (if t483 = t479 then ((laws_toNodeS.f k l0).bind fun t484 => ((laws_eqNodeS.f k t480 t484).bind fun t487 => (if t487 = true then (some true) else (some false)))) else (some false)))))))) = some true := h
 clear h
 replace H := Option.bind_eq_some_iff.mp H
 obtain ⟨t475, A20, H⟩ := H
 try dsimp only at H
 have A2 := Aside0.mk A20
 clear A20
 go_enter Tryz.func6, Tryz.ntmps6
 go_wp2_with (first | ((with_reducible refine gate_callee (f := 23) rfl ?_); refine goesL_ (some 9) rfl rfl Tryz.func23 (by kernel_rfl) rfl #[.slice A0 l0.length c0, .int .i64 1048576] rfl mA ?_; (with_reducible refine (laws_szNodeS.calls k _ _ l0 1048576 t475 _ ?side1 ?side2 A2.out).mono ?_); (case side1 => repeat (first | exact HR0.out | (with_reducible refine Kd.C_alloc ?_ _) | (with_reducible refine Kd.C_drewN ?_ _) | (with_reducible refine Kd.C_drew ?_))); (case side2 => exact HC0.out); rintro e w3 ⟨rfl, hb⟩; refine ⟨_, rfl, ?_⟩; replace HB := Aside0.mk (below_step hB hb); (try clear hb); (try clear hb2); (try clear hk); (try clear hi); refine halt_ ?_; intro q_ hq_))
 obtain ⟨rfl⟩ := hq_
 by_cases c4 : t475 < 0
 ·rw [if_pos c4] at H
  have c4b0 : decide (t475 < 0) = true := decide_eq_true c4
  clear c4
  first | obtain rfl := Option.some.inj H | clear H
  go_wp2
  go_ret
  exact ⟨rE, hB⟩
 ·rw [if_neg c4] at H
  have c4b0 : decide (t475 < 0) = false := decide_eq_false c4
  clear c4
  replace H := Option.bind_eq_some_iff.mp H
  obtain ⟨t476, A50, H⟩ := H
  try dsimp only at H
  have A5 := Aside0.mk A50
  clear A50
  replace H := Option.bind_eq_some_iff.mp H
  obtain ⟨t479, A60, H⟩ := H
  try dsimp only at H
  have A6 := Aside0.mk A60
  clear A60
  replace H := Option.bind_eq_some_iff.mp H
  obtain ⟨t480, A70, H⟩ := H
  try dsimp only at H
  have A7 := Aside0.mk A70
  clear A70
  replace H := Option.bind_eq_some_iff.mp H
  obtain ⟨t483, A80, H⟩ := H
  try dsimp only at H
  have A8 := Aside0.mk A80
  clear A80
  go_wp2_with (first | ((with_reducible refine gate_callee (f := 25) rfl ?_); refine goesL_ (some 13) rfl rfl Tryz.func25 (by kernel_rfl) rfl #[.slice A0 l0.length c0] rfl mA ?_; (with_reducible refine (laws_toNodeS.calls k _ _ l0 t476 _ ?side1 ?side2 A5.out).mono ?_); (case side1 => repeat (first | exact (Kd.C_below HR0.out HB.out) | (with_reducible refine Kd.C_alloc ?_ _) | (with_reducible refine Kd.C_drewN ?_ _) | (with_reducible refine Kd.C_drew ?_))); (case side2 => exact HC0.out); rintro e w9 ⟨v477, rfl, ho0, hb⟩; refine ⟨_, rfl, ?_⟩; have HO478 := Aside0.mk (Kd.R_lower ho0 (below_size hB)); replace HB := Aside0.mk (below_step hB hb); (try clear hb); (try clear hb2); (try clear hk); (try clear hi); (try clear ho0); obtain ⟨Ao10, co10, eo10⟩ := Kd.R_slice HO478.out; subst eo10) | ((with_reducible refine gate_callee (f := 33) rfl ?_); refine goesL_ (some 14) rfl rfl Tryz.func33 (by kernel_rfl) rfl #[.slice Ao10 t476.length co10] rfl mA ?_; (with_reducible refine (spec_Apart.calls k _ _ t476 t479 _ ?side1 ?side2 A6.out).mono ?_); (case side1 => repeat (first | exact (Kd.R_reads' HO478.out).2.2 | (with_reducible refine Kd.C_alloc ?_ _) | (with_reducible refine Kd.C_drewN ?_ _) | (with_reducible refine Kd.C_drew ?_))); (case side2 => exact (Kd.R_reads' HO478.out).2.1); rintro e w11 ⟨rfl, hb⟩; refine ⟨_, rfl, ?_⟩; replace HO478 := Aside0.mk (Kd.R_below (by (with_reducible repeat (first|apply rA|apply rN|apply rD)); exact HO478.out) hb); replace HB := Aside0.mk (below_step hB hb); (try clear hb); (try clear hb2); (try clear hk); (try clear hi)) | ((with_reducible refine gate_callee (f := 25) rfl ?_); refine goesL_ (some 16) rfl rfl Tryz.func25 (by kernel_rfl) rfl #[.slice A0 l0.length c0] rfl mA ?_; (with_reducible refine (laws_toNodeS.calls k _ _ l0 t480 _ ?side1 ?side2 A7.out).mono ?_); (case side1 => repeat (first | exact (Kd.C_below HR0.out HB.out) | (with_reducible refine Kd.C_alloc ?_ _) | (with_reducible refine Kd.C_drewN ?_ _) | (with_reducible refine Kd.C_drew ?_))); (case side2 => exact HC0.out); rintro e w12 ⟨v481, rfl, ho0, hb⟩; refine ⟨_, rfl, ?_⟩; have HO482 := Aside0.mk (Kd.R_lower (Kd.R_new' ho0 (Kd.R_lt (by (with_reducible repeat (first|apply rA|apply rN|apply rD)); exact HO478.out))) (below_size hB)); replace HO478 := Aside0.mk (Kd.R_elder' (by (with_reducible repeat (first|apply rA|apply rN|apply rD)); exact HO478.out) (Kd.R_base ho0) hb); replace HB := Aside0.mk (below_step hB hb); (try clear hb); (try clear hb2); (try clear hk); (try clear hi); (try clear ho0); obtain ⟨Ao13, co13, eo13⟩ := Kd.R_slice HO482.out; subst eo13) | ((with_reducible refine gate_callee (f := 34) rfl ?_); refine goesL_ (some 18) rfl rfl Tryz.func34 (by kernel_rfl) rfl #[.slice Ao13 t480.length co13] rfl mA ?_; (with_reducible refine (impl_Apart.calls k _ _ t480 t483 _ ?side1 ?side2 ?tabs A8.out).mono ?_); (case tabs => first | exact Tabs.below HT.out hB | (repeat (first | exact HT.out | (with_reducible refine Tabs.drewN ?_ _) | (with_reducible refine Tabs.drew ?_) | (with_reducible refine Tabs.alloc ?_ _)))); (case side1 => repeat (first | exact (Kd.R_reads' HO482.out).2.2 | (with_reducible refine Kd.C_alloc ?_ _) | (with_reducible refine Kd.C_drewN ?_ _) | (with_reducible refine Kd.C_drew ?_))); (case side2 => exact (Kd.R_reads' HO482.out).2.1); rintro e w14 ⟨rfl, hb⟩; refine ⟨_, rfl, ?_⟩; replace HO478 := Aside0.mk (Kd.R_below (by (with_reducible repeat (first|apply rA|apply rN|apply rD)); exact HO478.out) hb); replace HO482 := Aside0.mk (Kd.R_below (by (with_reducible repeat (first|apply rA|apply rN|apply rD)); exact HO482.out) hb); replace HB := Aside0.mk (below_step hB hb); (try clear hb); (try clear hb2); (try clear hk); (try clear hi); refine halt_ ?_; intro q_ hq_))
  obtain ⟨rfl⟩ := hq_
  by_cases c15 : t483 = t479
  ·rw [if_pos c15] at H
   have c15b0 : (t483 == t479) = true := beq_iff_eq.mpr c15
   have c15b1 : (t483 != t479) = false := bne_eq_false_iff_eq.mpr c15
   clear c15
   replace H := Option.bind_eq_some_iff.mp H
   obtain ⟨t484, A160, H⟩ := H
   try dsimp only at H
   have A16 := Aside0.mk A160
   clear A160
   replace H := Option.bind_eq_some_iff.mp H
   obtain ⟨t487, A170, H⟩ := H
   try dsimp only at H
   have A17 := Aside0.mk A170
   clear A170
   by_cases c18 : t487 = true
   ·subst c18
    have H1 : (some true) = some true := rfl
    clear H
    have H := H1
    clear H1
    first | obtain rfl := Option.some.inj H | clear H
    go_wp2_with (first | ((with_reducible refine gate_callee (f := 25) rfl ?_); refine goesL_ (some 24) rfl rfl Tryz.func25 (by kernel_rfl) rfl #[.slice A0 l0.length c0] rfl mA ?_; (with_reducible refine (laws_toNodeS.calls k _ _ l0 t484 _ ?side1 ?side2 A16.out).mono ?_); (case side1 => repeat (first | exact (Kd.C_below HR0.out HB.out) | (with_reducible refine Kd.C_alloc ?_ _) | (with_reducible refine Kd.C_drewN ?_ _) | (with_reducible refine Kd.C_drew ?_))); (case side2 => exact HC0.out); rintro e w19 ⟨v485, rfl, ho0, hb⟩; refine ⟨_, rfl, ?_⟩; have HO486 := Aside0.mk (Kd.R_lower (Kd.R_new' (Kd.R_new' ho0 (Kd.R_lt (by (with_reducible repeat (first|apply rA|apply rN|apply rD)); exact HO478.out))) (Kd.R_lt (by (with_reducible repeat (first|apply rA|apply rN|apply rD)); exact HO482.out))) (below_size hB)); replace HO478 := Aside0.mk (Kd.R_elder' (by (with_reducible repeat (first|apply rA|apply rN|apply rD)); exact HO478.out) (Kd.R_base ho0) hb); replace HO482 := Aside0.mk (Kd.R_elder' (by (with_reducible repeat (first|apply rA|apply rN|apply rD)); exact HO482.out) (Kd.R_base ho0) hb); replace HB := Aside0.mk (below_step hB hb); (try clear hb); (try clear hb2); (try clear hk); (try clear hi); (try clear ho0); obtain ⟨Ao20, co20, eo20⟩ := Kd.R_slice HO486.out; subst eo20) | ((with_reducible refine gate_callee (f := 27) rfl ?_); refine goesL_ (some 25) rfl rfl Tryz.func27 (by kernel_rfl) rfl #[.slice Ao13 t480.length co13, .slice Ao20 t484.length co20] rfl mA ?_; (with_reducible refine (laws_eqNodeS.calls k _ _ t480 _ _ t484 true _ ?side1 ?side2 ?side3 ?side4 A17.out).mono ?_); (case side1 => repeat (first | exact (Kd.R_reads' HO482.out).2.2 | (with_reducible refine Kd.C_alloc ?_ _) | (with_reducible refine Kd.C_drewN ?_ _) | (with_reducible refine Kd.C_drew ?_))); (case side2 => exact (Kd.R_reads' HO482.out).2.1); (case side3 => repeat (first | exact (Kd.R_reads' HO486.out).2.2 | (with_reducible refine Kd.C_alloc ?_ _) | (with_reducible refine Kd.C_drewN ?_ _) | (with_reducible refine Kd.C_drew ?_))); (case side4 => exact (Kd.R_reads' HO486.out).2.1); rintro e w21 ⟨rfl, hb⟩; refine ⟨_, rfl, ?_⟩; replace HO478 := Aside0.mk (Kd.R_below (by (with_reducible repeat (first|apply rA|apply rN|apply rD)); exact HO478.out) hb); replace HO482 := Aside0.mk (Kd.R_below (by (with_reducible repeat (first|apply rA|apply rN|apply rD)); exact HO482.out) hb); replace HO486 := Aside0.mk (Kd.R_below (by (with_reducible repeat (first|apply rA|apply rN|apply rD)); exact HO486.out) hb); replace HB := Aside0.mk (below_step hB hb); (try clear hb); (try clear hb2); (try clear hk); (try clear hi)))
    go_ret
    exact ⟨rE, hB⟩
   ·rw [if_neg c18] at H
    exact absurd H (by simp)
  ·rw [if_neg c15] at H
   exact absurd H (by simp)
end Go.Proofs.YtalionlkjdgciaaGreatDoor.PA
