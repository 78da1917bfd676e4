-- Written by the session's program hprint.py, over the kit's print program. Lean checks it.
import Derived.Test.YtdbinpeglamnnaaDoorPIx0
import Derived.Test.YtdbinpeglamnnaaDoorPIx1
import Derived.Test.YtdbinpeglamnnaaDoorPIx5
import Derived.Test.YtdbinpeglamnnaaDoorPIx8
import Derived.Test.YtdbinpeglamnnaaDoorPIx9
import Derived.Test.YtdbinpeglamnnaaDoorPIx10
import Derived.Test.YtdbinpeglamnnaaDoorPIx11
import Derived.Test.YtdbinpeglamnnaaDoorPIx12
namespace Go.Proofs.YtdbinpeglamnnaaDoor.PI
open Go.RowKit Go.Proofs.YtdbinpeglamnnaaDoorW.PrintWords Go.Proofs.YtdbinpeglamnnaaDoorW.PrintLast Go.Proofs.YtdbinpeglamnnaaDoorW.PrintMore
attribute [local go_sem] max2_int min2_int max_two min_two max_three min_three max_four min_four   -- for this text's walks alone
set_option linter.unusedVariables false
set_option linter.unusedSimpArgs false
set_option maxHeartbeats 8000000
set_option maxRecDepth 100000

/-! ### laws_FnExactIdsOf: function 3 -/
theorem laws_FnExactIdsOf.far8 {α : Type} {d : Kd α} {e : Nat} {w : World} {base : Nat} {ok : Nat → Prop} {v : Value} {xs : List α} {g : Nat} {u0 u1 u2 u3 u4 u5 u6 u7 : Value} (h : d.R e w base (fun k => ok k ∧ k ≠ g) v xs) :
    d.R e ((((((((w.setCell ⟨g, 0, none⟩ u0).setCell ⟨g, 1, none⟩ u1).setCell ⟨g, 2, none⟩ u2).setCell ⟨g, 3, none⟩ u3).setCell ⟨g, 4, none⟩ u4).setCell ⟨g, 5, none⟩ u5).setCell ⟨g, 6, none⟩ u6).setCell ⟨g, 7, none⟩ u7) base ok v xs :=
  Kd.R_mono (Kd.R_far (p := ⟨g, 7, none⟩) (Kd.R_far (p := ⟨g, 6, none⟩) (Kd.R_far (p := ⟨g, 5, none⟩) (Kd.R_far (p := ⟨g, 4, none⟩) (Kd.R_far (p := ⟨g, 3, none⟩) (Kd.R_far (p := ⟨g, 2, none⟩) (Kd.R_far (p := ⟨g, 1, none⟩) (Kd.R_far (p := ⟨g, 0, none⟩) h (fun _ hk => hk.2) u0) (fun _ hk => hk.2) u1) (fun _ hk => hk.2) u2) (fun _ hk => hk.2) u3) (fun _ hk => hk.2) u4) (fun _ hk => hk.2) u5) (fun _ hk => hk.2) u6) (fun _ hk => hk.2) u7) (fun _ h_ => h_.1)
def laws_FnExactIdsOf.j0 : Nat → List (S64) → List (S64) → Bool → Int → ByteArray → ByteArray → ByteArray → List (S76) → List (S78) → List (S26) → ByteArray → ByteArray → List (S81) → List (S84) → Option (Bool)
 | 0, _, _, _, _, _, _, _, _, _, _, _, _, _, _ => none
 | k + 1, x6, x9, x63, x398000, x398001, x398002, x398003, x398004, x398005, x398006, x398007, x399000, x399001, x399002 => if x63 = true then (some false) else ((laws_markAttrS.f k x9 1).bind fun bt480 => ((laws_heldAttrS.f k bt480.2 1).bind fun t482 => (if t482 < 0 then (some false) else (if t482 = bt480.1 then ((laws_toNode.f k x398000 x398001 x398002 x398003 x398004 x398005 x398006 x398007).bind fun bt483 => ((laws_toHead.f k x399000 x399001 x399002).bind fun bt497 => ((impl_IdsOf.f k bt483.1 bt483.2.1 bt483.2.2.1 bt483.2.2.2.1 bt483.2.2.2.2.1 bt483.2.2.2.2.2.1 bt483.2.2.2.2.2.2.1 bt483.2.2.2.2.2.2.2 bt497.1 bt497.2.1 bt497.2.2).bind fun t504 => ((laws_eqAttrS.f k t504 x6).bind fun t507 => (if t507 = true then ((laws_heldAttrS.f k bt480.2 1).bind fun t508 => (if t508 < 0 then (some false) else (if t508 = bt480.1 then (some true) else (some false)))) else (some false)))))) else (some false)))))
theorem laws_FnExactIdsOf.j0_t (k : Nat) (x6 : List (S64)) (x9 : List (S64)) (x398000 : Int) (x398001 : ByteArray) (x398002 : ByteArray) (x398003 : ByteArray) (x398004 : List (S76)) (x398005 : List (S78)) (x398006 : List (S26)) (x398007 : ByteArray) (x399000 : ByteArray) (x399001 : List (S81)) (x399002 : List (S84)) : laws_FnExactIdsOf.j0 k x6 x9 true x398000 x398001 x398002 x398003 x398004 x398005 x398006 x398007 x399000 x399001 x399002 ≠ some true := by cases k <;> simp [laws_FnExactIdsOf.j0]
def laws_FnExactIdsOf.f (k : Nat) (a0_0 : Int) (a0_1 : ByteArray) (a0_2 : ByteArray) (a0_3 : ByteArray) (l0_4 : List (S76)) (l0_5 : List (S78)) (l0_6 : List (S26)) (a0_7 : ByteArray) (a1_0 : ByteArray) (l1_1 : List (S81)) (l1_2 : List (S84)) : Option (Bool) := (laws_szNode.f k a0_0 a0_1 a0_2 a0_3 l0_4 l0_5 l0_6 a0_7 1048576).bind fun t399 => (if t399 < 0 then (some true) else ((laws_szHead.f k a1_0 l1_1 l1_2 t399).bind fun t400 => (if t400 < 0 then (some true) else ((laws_toNode.f k a0_0 a0_1 a0_2 a0_3 l0_4 l0_5 l0_6 a0_7).bind fun bt401 => ((laws_toHead.f k a1_0 l1_1 l1_2).bind fun bt415 => ((spec_IdsOf.f k bt401.1 bt401.2.1 bt401.2.2.1 bt401.2.2.2.1 bt401.2.2.2.2.1 bt401.2.2.2.2.2.1 bt401.2.2.2.2.2.2.1 bt401.2.2.2.2.2.2.2 bt415.1 bt415.2.1 bt415.2.2).bind fun t422 => ((laws_toNode.f k a0_0 a0_1 a0_2 a0_3 l0_4 l0_5 l0_6 a0_7).bind fun bt425 => ((laws_toHead.f k a1_0 l1_1 l1_2).bind fun bt440 => ((impl_IdsOf.f k bt425.1 bt425.2.1 bt425.2.2.1 bt425.2.2.2.1 bt425.2.2.2.2.1 bt425.2.2.2.2.2.1 bt425.2.2.2.2.2.2.1 bt425.2.2.2.2.2.2.2 bt440.1 bt440.2.1 bt440.2.2).bind fun t448 => ((laws_eqAttrS.f k t448 t422).bind fun t451 => (if t451 = true then ((laws_toNode.f k a0_0 a0_1 a0_2 a0_3 l0_4 l0_5 l0_6 a0_7).bind fun bt452 => ((laws_eqNode.f k bt425.1 bt425.2.1 bt425.2.2.1 bt425.2.2.2.1 bt425.2.2.2.2.1 bt425.2.2.2.2.2.1 bt425.2.2.2.2.2.2.1 bt425.2.2.2.2.2.2.2 bt452.1 bt452.2.1 bt452.2.2.1 bt452.2.2.2.1 bt452.2.2.2.2.1 bt452.2.2.2.2.2.1 bt452.2.2.2.2.2.2.1 bt452.2.2.2.2.2.2.2).bind fun t466 => (if t466 = true then ((laws_toHead.f k a1_0 l1_1 l1_2).bind fun bt467 => ((laws_eqHead.f k bt440.1 bt440.2.1 bt440.2.2 bt467.1 bt467.2.1 bt467.2.2).bind fun t474 => (if t474 = true then ((laws_markNode.f k bt425.1 bt425.2.1 bt425.2.2.1 bt425.2.2.2.1 bt425.2.2.2.2.1 bt425.2.2.2.2.2.1 bt425.2.2.2.2.2.2.1 bt425.2.2.2.2.2.2.2 1).bind fun t475 => ((laws_markHead.f k bt440.1 bt440.2.1 bt440.2.2 t475).bind fun bt476 => (if bt476.1 < 0 then (laws_FnExactIdsOf.j0 k t422 t448 true a0_0 a0_1 a0_2 a0_3 l0_4 l0_5 l0_6 a0_7 a1_0 l1_1 l1_2) else ((laws_eqAttrS.f k t448 t422).bind fun t479 => (laws_FnExactIdsOf.j0 k t422 t448 (!t479) a0_0 a0_1 a0_2 a0_3 l0_4 l0_5 l0_6 a0_7 a1_0 l1_1 l1_2))))) else (some false)))) else (some false)))) else (some false))))))))))))
theorem laws_FnExactIdsOf.calls (k : Nat) (a0_0 : Int) (a0_1 : ByteArray) (a0_2 : ByteArray) (a0_3 : ByteArray) (A0_4 : Option Addr) (c0_4 : Nat) (l0_4 : List (S76)) (A0_5 : Option Addr) (c0_5 : Nat) (l0_5 : List (S78)) (A0_6 : Option Addr) (c0_6 : Nat) (l0_6 : List (S26)) (a0_7 : ByteArray) (a1_0 : ByteArray) (A1_1 : Option Addr) (c1_1 : Nat) (l1_1 : List (S81)) (A1_2 : Option Addr) (c1_2 : Nat) (l1_2 : List (S84)) (r_ : Bool) (w : World) (hr0_4 : Kd.C k76 w A0_4 l0_4.length l0_4) (hc0_4 : l0_4.length ≤ c0_4) (hr0_5 : Kd.C k78 w A0_5 l0_5.length l0_5) (hc0_5 : l0_5.length ≤ c0_5) (hr0_6 : Kd.C k26 w A0_6 l0_6.length l0_6) (hc0_6 : l0_6.length ≤ c0_6) (hr1_1 : Kd.C k81 w A1_1 l1_1.length l1_1) (hc1_1 : l1_1.length ≤ c1_1) (hr1_2 : Kd.C k84 w A1_2 l1_2.length l1_2) (hc1_2 : l1_2.length ≤ c1_2) (hTab : Tabs w) (h : laws_FnExactIdsOf.f k a0_0 a0_1 a0_2 a0_3 l0_4 l0_5 l0_6 a0_7 a1_0 l1_1 l1_2 = some true) :
  Calls Tryd.prog 3 #[.agg #[.int .i64 a0_0, .string a0_1, .string a0_2, .string a0_3, .slice A0_4 l0_4.length c0_4, .slice A0_5 l0_5.length c0_5, .slice A0_6 l0_6.length c0_6, .string a0_7], .agg #[.string a1_0, .slice A1_1 l1_1.length c1_1, .slice A1_2 l1_2.length c1_2]] w fun e w' => e = .returned (.bool true) ∧ Below w.heap.size w w' := by
 have HT := Aside0.mk hTab
 clear hTab
 have hu26 := Tryd.underlying26
 have hu30 := Tryd.underlying30
 have hu38 := Tryd.underlying38
 have hu43 := Tryd.underlying43
 have HR0_4 := Aside0.mk hr0_4
 have HC0_4 := Aside0.mk hc0_4
 clear hr0_4 hc0_4
 have HR0_5 := Aside0.mk hr0_5
 have HC0_5 := Aside0.mk hc0_5
 clear hr0_5 hc0_5
 have HR0_6 := Aside0.mk hr0_6
 have HC0_6 := Aside0.mk hc0_6
 clear hr0_6 hc0_6
 have HR1_1 := Aside0.mk hr1_1
 have HC1_1 := Aside0.mk hc1_1
 clear hr1_1 hc1_1
 have HR1_2 := Aside0.mk hr1_2
 have HC1_2 := Aside0.mk hc1_2
 clear hr1_2 hc1_2
 have HB := Aside0.mk (Below.refl w.heap.size w)
 have H : ((laws_szNode.f k a0_0 a0_1 a0_2 a0_3 l0_4 l0_5 l0_6 a0_7 1048576).bind fun t399 => (if t399 < 0 then (some true) else ((laws_szHead.f k a1_0 l1_1 l1_2 t399).bind fun t400 => (if t400 < 0 then (some true) else ((laws_toNode.f k a0_0 a0_1 a0_2 a0_3 l0_4 l0_5 l0_6 a0_7).bind fun bt401 => ((laws_toHead.f k a1_0 l1_1 l1_2).bind fun bt415 => ((spec_IdsOf.f k bt401.1 bt401.2.1 bt401.2.2.1 bt401.2.2.2.1 bt401.2.2.2.2.1 bt401.2.2.2.2.2.1 bt401.2.2.2.2.2.2.1 bt401.2.2.2.2.2.2.2 bt415.1 bt415.2.1 bt415.2.2).bind fun t422 => ((laws_toNode.f k a0_0 a0_1 a0_2 a0_3 l0_4 l0_5 l0_6 a0_7).bind fun bt425 => ((laws_toHead.f k a1_0 l1_1 l1_2).bind fun bt440 => ((impl_IdsOf.f k bt425.1 bt425.2.1 bt425.2.2.1 bt425.2.2.2.1 bt425.2.2.2.2.1 bt425.2.2.2.2.2.1 bt425.2.2.2.2.2.2.1 bt425.2.2.2.2.2.2.2 bt440.1 bt440.2.1 bt440.2.2).bind fun t448 => ((laws_eqAttrS.f k t448 t422).bind fun t451 => (if t451 = true then ((laws_toNode.f k a0_0 a0_1 a0_2 a0_3 l0_4 l0_5 l0_6 a0_7).bind fun bt452 => ((laws_eqNode.f k bt425.1 bt425.2.1 bt425.2.2.1 bt425.2.2.2.1 bt425.2.2.2.2.1 bt425.2.2.2.2.2.1 bt425.2.2.2.2.2.2.1 bt425.2.2.2.2.2.2.2 bt452.1 bt452.2.1 bt452.2.2.1 bt452.2.2.2.1 bt452.2.2.2.2.1 bt452.2.2.2.2.2.1 bt452.2.2.2.2.2.2.1 bt452.2.2.2.2.2.2.2).bind fun t466 => (if t466 = true then ((laws_toHead.f k a1_0 l1_1 l1_2).bind fun bt467 => ((laws_eqHead.f k bt440.1 bt440.2.1 bt440.2.2 bt467.1 bt467.2.1 bt467.2.2).bind fun t474 => (if t474 = true then ((laws_markNode.f k bt425.1 bt425.2.1 bt425.2.2.1 bt425.2.2.2.1 bt425.2.2.2.2.1 bt425.2.2.2.2.2.1 bt425.2.2.2.2.2.2.1 bt425.2.2.2.2.2.2.2 1).bind fun t475 => ((laws_markHead.f k bt440.1 bt440.2.1 bt440.2.2 t475).bind fun bt476 => (if bt476.1 < 0 then (laws_FnExactIdsOf.j0 k t422 t448 true a0_0 a0_1 a0_2 a0_3 l0_4 l0_5 l0_6 a0_7 a1_0 l1_1 l1_2) else ((laws_eqAttrS.f k t448 t422).bind fun t479 => (laws_FnExactIdsOf.j0 k t422 t448 (!t479) a0_0 a0_1 a0_2 a0_3 l0_4 l0_5 l0_6 a0_7 a1_0 l1_1 l1_2))))) else (some false)))) else (some false)))) else (some false))))))))))))) = some true := h
 clear h
 replace H := Option.bind_eq_some_iff.mp H
 obtain ⟨t399, A30, H⟩ := H
 try dsimp only at H
 have A3 := Aside0.mk A30
 clear A30
 go_enter Tryd.func3, Tryd.ntmps3
 go_wp2_with (first | ((with_reducible refine gate_dst (N := 2) rfl ?_); refine box_event ?hg (N := 2) ?hd (cs := #[.int .i64 a0_0, .string a0_1, .string a0_2, .string a0_3, .slice A0_4 l0_4.length c0_4, .slice A0_5 l0_5.length c0_5, .slice A0_6 l0_6.length c0_6, .string a0_7]) (t := 26) ?hr ?_; (case hd => rfl); (case hg => rfl); (case hr => first | (go_simp; done) | (go_simp; rfl)); intro gb397 hg w4 hbox hb; have BK397 := Aside0.mk (hbox); have GW397 := Aside0.mk ((by rw [hg]; exact (below_size hB) : w.heap.size ≤ gb397)); have GE397 := Aside0.mk ((by rw [hg]; exact (below_size hB) : w.heap.size ≤ gb397)); replace HB := Aside0.mk (below_step hB hb); clear hb hbox hg) | ((with_reducible refine gate_dst (N := 3) rfl ?_); refine box_event ?hg (N := 3) ?hd (cs := #[.string a1_0, .slice A1_1 l1_1.length c1_1, .slice A1_2 l1_2.length c1_2]) (t := 30) ?hr ?_; (case hd => rfl); (case hg => rfl); (case hr => first | (go_simp; done) | (go_simp; rfl)); intro gb398 hg w5 hbox hb; have BK398 := Aside0.mk (hbox); have GW398 := Aside0.mk ((by rw [hg]; exact (below_size hB) : w.heap.size ≤ gb398)); have GE398 := Aside0.mk ((by rw [hg]; exact (below_size hB) : w.heap.size ≤ gb398)); replace HB := Aside0.mk (below_step hB hb); have NB397_398 := Aside0.mk ((by rw [hg]; exact Nat.ne_of_lt (blk_lt (g := gb397) (by (with_reducible repeat (first | refine bN ?_ _|refine bD ?_|refine bA ?_ _)); exact BK397.out)) : gb397 ≠ gb398)); have NB398_397 := Aside0.mk ((by rw [hg]; exact Nat.ne_of_gt (blk_lt (g := gb397) (by (with_reducible repeat (first | refine bN ?_ _|refine bD ?_|refine bA ?_ _)); exact BK397.out)) : gb398 ≠ gb397)); replace BK397 := Aside0.mk (blk_below (g := gb397) (by (with_reducible repeat (first | refine bN ?_ _|refine bD ?_|refine bA ?_ _)); exact BK397.out) hb); clear hb hbox hg; have hnb6 := NB397_398.out; have hnc6 := NB398_397.out; obtain ⟨hcz7_0, hcz7_1, hcz7_2, hcz7_3, hcz7_4, hcz7_5, hcz7_6, hcz7_7⟩ := bc8 BK397.out; obtain ⟨hfz7_0, hfz7_1, hfz7_2, hfz7_3, hfz7_4, hfz7_5, hfz7_6, hfz7_7⟩ := bf8 BK397.out) | ((with_reducible refine gate_callee (f := 4) rfl ?_); refine goesL_ (some 16) rfl rfl Tryd.func4 (by kernel_rfl) rfl #[.agg #[.int .i64 a0_0, .string a0_1, .string a0_2, .string a0_3, .slice A0_4 l0_4.length c0_4, .slice A0_5 l0_5.length c0_5, .slice A0_6 l0_6.length c0_6, .string a0_7], .int .i64 1048576] rfl mA ?_; (with_reducible refine (laws_szNode.calls k a0_0 a0_1 a0_2 a0_3 _ _ l0_4 _ _ l0_5 _ _ l0_6 a0_7 1048576 t399 _ ?side1 ?side2 ?side3 ?side4 ?side5 ?side6 A3.out).mono ?_); (case side1 => repeat (first | exact (Kd.C_below HR0_4.out HB.out) | (with_reducible refine Kd.C_alloc ?_ _) | (with_reducible refine Kd.C_drewN ?_ _) | (with_reducible refine Kd.C_drew ?_))); (case side2 => exact HC0_4.out); (case side3 => repeat (first | exact (Kd.C_below HR0_5.out HB.out) | (with_reducible refine Kd.C_alloc ?_ _) | (with_reducible refine Kd.C_drewN ?_ _) | (with_reducible refine Kd.C_drew ?_))); (case side4 => exact HC0_5.out); (case side5 => repeat (first | exact (Kd.C_below HR0_6.out HB.out) | (with_reducible refine Kd.C_alloc ?_ _) | (with_reducible refine Kd.C_drewN ?_ _) | (with_reducible refine Kd.C_drew ?_))); (case side6 => exact HC0_6.out); rintro e w8 ⟨rfl, hb⟩; refine ⟨_, rfl, ?_⟩; replace BK397 := Aside0.mk (blk_below (g := gb397) (by (with_reducible repeat (first | refine bN ?_ _|refine bD ?_|refine bA ?_ _)); exact BK397.out) hb); replace BK398 := Aside0.mk (blk_below (g := gb398) (by (with_reducible repeat (first | refine bN ?_ _|refine bD ?_|refine bA ?_ _)); exact BK398.out) hb); replace HB := Aside0.mk (below_step hB hb); (try clear hb); (try clear hb2); (try clear hk); (try clear hi); refine halt_ ?_; intro q_ hq_))
 obtain ⟨rfl⟩ := hq_
 by_cases c9 : t399 < 0
 ·rw [if_pos c9] at H
  have c9b0 : decide (t399 < 0) = true := decide_eq_true c9
  clear c9
  first | obtain rfl := Option.some.inj H | clear H
  go_wp2
  go_ret
  exact ⟨rE, hB⟩
 ·rw [if_neg c9] at H
  have c9b0 : decide (t399 < 0) = false := decide_eq_false c9
  clear c9
  replace H := Option.bind_eq_some_iff.mp H
  obtain ⟨t400, A100, H⟩ := H
  try dsimp only at H
  have A10 := Aside0.mk A100
  clear A100
  have hnb11 := NB398_397.out
  have hnc11 := NB397_398.out
  obtain ⟨hcz12_0, hcz12_1, hcz12_2⟩ := bc3 BK398.out
  obtain ⟨hfz12_0, hfz12_1, hfz12_2⟩ := bf3 BK398.out
  go_wp2_with (first | ((with_reducible refine gate_callee (f := 5) rfl ?_); refine goesL_ (some 21) rfl rfl Tryd.func5 (by kernel_rfl) rfl #[.agg #[.string a1_0, .slice A1_1 l1_1.length c1_1, .slice A1_2 l1_2.length c1_2], .int .i64 t399] rfl mA ?_; (with_reducible refine (laws_szHead.calls k a1_0 _ _ l1_1 _ _ l1_2 t399 t400 _ ?side1 ?side2 ?side3 ?side4 A10.out).mono ?_); (case side1 => repeat (first | exact (Kd.C_below HR1_1.out HB.out) | (with_reducible refine Kd.C_alloc ?_ _) | (with_reducible refine Kd.C_drewN ?_ _) | (with_reducible refine Kd.C_drew ?_))); (case side2 => exact HC1_1.out); (case side3 => repeat (first | exact (Kd.C_below HR1_2.out HB.out) | (with_reducible refine Kd.C_alloc ?_ _) | (with_reducible refine Kd.C_drewN ?_ _) | (with_reducible refine Kd.C_drew ?_))); (case side4 => exact HC1_2.out); rintro e w13 ⟨rfl, hb⟩; refine ⟨_, rfl, ?_⟩; replace BK397 := Aside0.mk (blk_below (g := gb397) (by (with_reducible repeat (first | refine bN ?_ _|refine bD ?_|refine bA ?_ _)); exact BK397.out) hb); replace BK398 := Aside0.mk (blk_below (g := gb398) (by (with_reducible repeat (first | refine bN ?_ _|refine bD ?_|refine bA ?_ _)); exact BK398.out) hb); replace HB := Aside0.mk (below_step hB hb); (try clear hb); (try clear hb2); (try clear hk); (try clear hi); refine halt_ ?_; intro q_ hq_))
  obtain ⟨rfl⟩ := hq_
  by_cases c14 : t400 < 0
  ·rw [if_pos c14] at H
   have c14b0 : decide (t400 < 0) = true := decide_eq_true c14
   clear c14
   first | obtain rfl := Option.some.inj H | clear H
   go_wp2
   go_ret
   exact ⟨rE, hB⟩
  ·rw [if_neg c14] at H
   have c14b0 : decide (t400 < 0) = false := decide_eq_false c14
   clear c14
   replace H := Option.bind_eq_some_iff.mp H
   obtain ⟨⟨t401, t402, t403, t404, t405, t408, t411, t414⟩, A150, H⟩ := H
   try dsimp only at H
   have A15 := Aside0.mk A150
   clear A150
   replace H := Option.bind_eq_some_iff.mp H
   obtain ⟨⟨t415, t416, t419⟩, A160, H⟩ := H
   try dsimp only at H
   have A16 := Aside0.mk A160
   clear A160
   replace H := Option.bind_eq_some_iff.mp H
   obtain ⟨t422, A170, H⟩ := H
   try dsimp only at H
   have A17 := Aside0.mk A170
   clear A170
   replace H := Option.bind_eq_some_iff.mp H
   obtain ⟨⟨t425, t426, t427, t428, t429, t432, t435, t438⟩, A180, H⟩ := H
   try dsimp only at H
   have A18 := Aside0.mk A180
   clear A180
   replace H := Option.bind_eq_some_iff.mp H
   obtain ⟨⟨t440, t441, t444⟩, A190, H⟩ := H
   try dsimp only at H
   have A19 := Aside0.mk A190
   clear A190
   replace H := Option.bind_eq_some_iff.mp H
   obtain ⟨t448, A200, H⟩ := H
   try dsimp only at H
   have A20 := Aside0.mk A200
   clear A200
   replace H := Option.bind_eq_some_iff.mp H
   obtain ⟨t451, A210, H⟩ := H
   try dsimp only at H
   have A21 := Aside0.mk A210
   clear A210
   by_cases c22 : t451 = true
   ·subst c22
    rw [if_pos rfl] at H
    replace H := Option.bind_eq_some_iff.mp H
    obtain ⟨⟨t452, t453, t454, t455, t456, t459, t462, t465⟩, A230, H⟩ := H
    try dsimp only at H
    have A23 := Aside0.mk A230
    clear A230
    replace H := Option.bind_eq_some_iff.mp H
    obtain ⟨t466, A240, H⟩ := H
    try dsimp only at H
    have A24 := Aside0.mk A240
    clear A240
    by_cases c25 : t466 = true
    ·subst c25
     rw [if_pos rfl] at H
     replace H := Option.bind_eq_some_iff.mp H
     obtain ⟨⟨t467, t468, t471⟩, A260, H⟩ := H
     try dsimp only at H
     have A26 := Aside0.mk A260
     clear A260
     replace H := Option.bind_eq_some_iff.mp H
     obtain ⟨t474, A270, H⟩ := H
     try dsimp only at H
     have A27 := Aside0.mk A270
     clear A270
     by_cases c28 : t474 = true
     ·subst c28
      rw [if_pos rfl] at H
      replace H := Option.bind_eq_some_iff.mp H
      obtain ⟨t475, A290, H⟩ := H
      try dsimp only at H
      have A29 := Aside0.mk A290
      clear A290
      replace H := Option.bind_eq_some_iff.mp H
      obtain ⟨⟨t476, t477, t478⟩, A300, H⟩ := H
      try dsimp only at H
      have A30 := Aside0.mk A300
      clear A300
      have HC31 := Aside0.mk H
      clear H
      try go_wp2
      replace BK397 := Aside0.mk (blk_drew BK397.out)
      replace BK398 := Aside0.mk (blk_drew BK398.out)
      replace HB := Aside0.mk (below_drew1 HB.out)
      refine start_ (n := 6) (S := fun w' => w'.cell? ⟨gb397, 0, none⟩ = some (.int .i64 a0_0) ∧ w'.cell? ⟨gb397, 1, none⟩ = some (.string a0_1) ∧ w'.cell? ⟨gb397, 2, none⟩ = some (.string a0_2) ∧ w'.cell? ⟨gb397, 3, none⟩ = some (.string a0_3) ∧ w'.cell? ⟨gb397, 4, none⟩ = some (.slice A0_4 l0_4.length c0_4) ∧ w'.cell? ⟨gb397, 5, none⟩ = some (.slice A0_5 l0_5.length c0_5) ∧ w'.cell? ⟨gb397, 6, none⟩ = some (.slice A0_6 l0_6.length c0_6) ∧ w'.cell? ⟨gb397, 7, none⟩ = some (.string a0_7) ∧ w'.cell? ⟨gb398, 0, none⟩ = some (.string a1_0) ∧ w'.cell? ⟨gb398, 1, none⟩ = some (.slice A1_1 l1_1.length c1_1) ∧ w'.cell? ⟨gb398, 2, none⟩ = some (.slice A1_2 l1_2.length c1_2)) (ds := []) #[false, false, false, false, false, false] (by kernel_rfl) rfl rfl ⟨(blk_cell BK397.out 0).trans rfl, (blk_cell BK397.out 1).trans rfl, (blk_cell BK397.out 2).trans rfl, (blk_cell BK397.out 3).trans rfl, (blk_cell BK397.out 4).trans rfl, (blk_cell BK397.out 5).trans rfl, (blk_cell BK397.out 6).trans rfl, (blk_cell BK397.out 7).trans rfl, (blk_cell BK398.out 0).trans rfl, (blk_cell BK398.out 1).trans rfl, (blk_cell BK398.out 2).trans rfl⟩ (fun hHeld => ?_)
      generalize w13.drew = w32 at BK397 BK398 HB hHeld ⊢
      refine take_ (i := 0) (N := some 24) (v := ?_) (a' := ?_) (tf 1 5) rfl rfl (by kernel_rfl) (fun _ _ _ h => h) (Or.inl ⟨by rfl, ?_⟩) hHeld ?_ ?_
      rotate_left
      ·rintro w' ⟨s0, s1, s2, s3, s4, s5, s6, s7, s8, s9, s10⟩
       go_simp
       with_reducible rfl
      rotate_left
      ·simp only [Act.put, sT, sZ, sS, i64_w, i32_w]
       rfl
      refine take_ (i := 2) (N := some 26) (v := ?_) (a' := ?_) #[true, false, true, false, false, false] rfl rfl (by kernel_rfl) (fun _ _ _ h => h) (Or.inl ⟨by rfl, ?_⟩) hHeld ?_ ?_
      rotate_left
      ·rintro w' ⟨s0, s1, s2, s3, s4, s5, s6, s7, s8, s9, s10⟩
       go_simp
       with_reducible rfl
      rotate_left
      ·simp only [Act.put, sT, sZ, sS, i64_w, i32_w]
       rfl
      refine one_ (i := 1) (N := some 25) (tf 3 3) rfl rfl (by kernel_rfl) (by decide) (fun K hK => ?_)
      refine goes_ Tryd.func7 (by kernel_rfl) rfl #[.agg #[.int .i64 a0_0, .string a0_1, .string a0_2, .string a0_3, .slice A0_4 l0_4.length c0_4, .slice A0_5 l0_5.length c0_5, .slice A0_6 l0_6.length c0_6, .string a0_7]] (by rfl) rfl rfl mA ?_
      with_reducible refine (laws_toNode.calls k a0_0 a0_1 a0_2 a0_3 _ _ l0_4 _ _ l0_5 _ _ l0_6 a0_7 t401 t402 t403 t404 t405 t408 t411 t414 _ ?side1 ?side2 ?side3 ?side4 ?side5 ?side6 A15.out).mono ?_
      (case side1 => repeat (first | exact (Kd.C_below HR0_4.out HB.out) | (with_reducible refine Kd.C_alloc ?_ _) | (with_reducible refine Kd.C_drewN ?_ _) | (with_reducible refine Kd.C_drew ?_)))
      (case side2 => exact HC0_4.out)
      (case side3 => repeat (first | exact (Kd.C_below HR0_5.out HB.out) | (with_reducible refine Kd.C_alloc ?_ _) | (with_reducible refine Kd.C_drewN ?_ _) | (with_reducible refine Kd.C_drew ?_)))
      (case side4 => exact HC0_5.out)
      (case side5 => repeat (first | exact (Kd.C_below HR0_6.out HB.out) | (with_reducible refine Kd.C_alloc ?_ _) | (with_reducible refine Kd.C_drewN ?_ _) | (with_reducible refine Kd.C_drew ?_)))
      (case side6 => exact HC0_6.out)
      rintro e w33 ⟨v406, v409, v412, rfl, ho0, ho1, ho2, hb⟩
      refine ⟨_, rfl, ?_⟩
      have HO407 := Aside0.mk (Kd.R_lower ho0 (below_size hB))
      have HO410 := Aside0.mk (Kd.R_lower ho1 (below_size hB))
      have HO413 := Aside0.mk (Kd.R_lower ho2 (below_size hB))
      replace BK397 := Aside0.mk (blk_below (g := gb397) (by (with_reducible repeat (first | refine bN ?_ _|refine bD ?_|refine bA ?_ _)); exact BK397.out) hb)
      replace BK398 := Aside0.mk (blk_below (g := gb398) (by (with_reducible repeat (first | refine bN ?_ _|refine bD ?_|refine bA ?_ _)); exact BK398.out) hb)
      replace HB := Aside0.mk (below_step hB hb)
      (try clear hb)
      (try clear hb2)
      (try clear hk)
      (try clear hi)
      (try clear ho0)
      (try clear ho1)
      (try clear ho2)
      refine hK.out _ _ ⟨(blk_cell BK397.out 0).trans rfl, (blk_cell BK397.out 1).trans rfl, (blk_cell BK397.out 2).trans rfl, (blk_cell BK397.out 3).trans rfl, (blk_cell BK397.out 4).trans rfl, (blk_cell BK397.out 5).trans rfl, (blk_cell BK397.out 6).trans rfl, (blk_cell BK397.out 7).trans rfl, (blk_cell BK398.out 0).trans rfl, (blk_cell BK398.out 1).trans rfl, (blk_cell BK398.out 2).trans rfl⟩ (fun hHeld => ?_)
      clear hK K
      refine norm_ (a' := ?_) ?_ ?_
      rotate_left
      ·show Act.put _ (some 25) _ = _
       simp only [Act.put, sT, sZ, sS, i64_w, i32_w]
       rfl
      refine one_ (i := 3) (N := some 27) (tf 4 2) rfl rfl (by kernel_rfl) (by decide) (fun K hK => ?_)
      refine goes_ Tryd.func8 (by kernel_rfl) rfl #[.agg #[.string a1_0, .slice A1_1 l1_1.length c1_1, .slice A1_2 l1_2.length c1_2]] (by rfl) rfl rfl mA ?_
      with_reducible refine (laws_toHead.calls k a1_0 _ _ l1_1 _ _ l1_2 t415 t416 t419 _ ?side1 ?side2 ?side3 ?side4 A16.out).mono ?_
      (case side1 => repeat (first | exact (Kd.C_below HR1_1.out HB.out) | (with_reducible refine Kd.C_alloc ?_ _) | (with_reducible refine Kd.C_drewN ?_ _) | (with_reducible refine Kd.C_drew ?_)))
      (case side2 => exact HC1_1.out)
      (case side3 => repeat (first | exact (Kd.C_below HR1_2.out HB.out) | (with_reducible refine Kd.C_alloc ?_ _) | (with_reducible refine Kd.C_drewN ?_ _) | (with_reducible refine Kd.C_drew ?_)))
      (case side4 => exact HC1_2.out)
      rintro e w34 ⟨v417, v420, rfl, ho0, ho1, hb⟩
      refine ⟨_, rfl, ?_⟩
      replace HO407 := Aside0.mk (Kd.R_below (by (with_reducible repeat (first|apply rA|apply rN|apply rD)); exact HO407.out) hb)
      replace HO410 := Aside0.mk (Kd.R_below (by (with_reducible repeat (first|apply rA|apply rN|apply rD)); exact HO410.out) hb)
      replace HO413 := Aside0.mk (Kd.R_below (by (with_reducible repeat (first|apply rA|apply rN|apply rD)); exact HO413.out) hb)
      have HO418 := Aside0.mk (Kd.R_lower ho0 (below_size hB))
      have HO421 := Aside0.mk (Kd.R_lower ho1 (below_size hB))
      replace BK397 := Aside0.mk (blk_below (g := gb397) (by (with_reducible repeat (first | refine bN ?_ _|refine bD ?_|refine bA ?_ _)); exact BK397.out) hb)
      replace BK398 := Aside0.mk (blk_below (g := gb398) (by (with_reducible repeat (first | refine bN ?_ _|refine bD ?_|refine bA ?_ _)); exact BK398.out) hb)
      replace HB := Aside0.mk (below_step hB hb)
      (try clear hb)
      (try clear hb2)
      (try clear hk)
      (try clear hi)
      (try clear ho0)
      (try clear ho1)
      obtain ⟨Ao35, co35, eo35⟩ := Kd.R_slice HO407.out
      (first | subst eo35 | (injection eo35 with f1_ f2_ f3_; have f4_ := f1_.symm; have f5_ := f3_.symm; clear f1_ f2_ f3_; subst f4_; subst f5_))
      obtain ⟨Ao36, co36, eo36⟩ := Kd.R_slice HO410.out
      (first | subst eo36 | (injection eo36 with f1_ f2_ f3_; have f4_ := f1_.symm; have f5_ := f3_.symm; clear f1_ f2_ f3_; subst f4_; subst f5_))
      obtain ⟨Ao37, co37, eo37⟩ := Kd.R_slice HO413.out
      (first | subst eo37 | (injection eo37 with f1_ f2_ f3_; have f4_ := f1_.symm; have f5_ := f3_.symm; clear f1_ f2_ f3_; subst f4_; subst f5_))
      obtain ⟨Ao38, co38, eo38⟩ := Kd.R_slice HO418.out
      (first | subst eo38 | (injection eo38 with f1_ f2_ f3_; have f4_ := f1_.symm; have f5_ := f3_.symm; clear f1_ f2_ f3_; subst f4_; subst f5_))
      obtain ⟨Ao39, co39, eo39⟩ := Kd.R_slice HO421.out
      (first | subst eo39 | (injection eo39 with f1_ f2_ f3_; have f4_ := f1_.symm; have f5_ := f3_.symm; clear f1_ f2_ f3_; subst f4_; subst f5_))
      refine hK.out _ _ ⟨(blk_cell BK397.out 0).trans rfl, (blk_cell BK397.out 1).trans rfl, (blk_cell BK397.out 2).trans rfl, (blk_cell BK397.out 3).trans rfl, (blk_cell BK397.out 4).trans rfl, (blk_cell BK397.out 5).trans rfl, (blk_cell BK397.out 6).trans rfl, (blk_cell BK397.out 7).trans rfl, (blk_cell BK398.out 0).trans rfl, (blk_cell BK398.out 1).trans rfl, (blk_cell BK398.out 2).trans rfl⟩ (fun hHeld => ?_)
      clear hK K
      refine norm_ (a' := ?_) ?_ ?_
      rotate_left
      ·show Act.put _ (some 27) _ = _
       simp only [Act.put, sT, sZ, sS, i64_w, i32_w]
       rfl
      refine one_ (i := 4) (N := some 28) (tf 5 1) rfl rfl (by kernel_rfl) (by decide) (fun K hK => ?_)
      refine goes_ Tryd.func6 (by kernel_rfl) rfl #[.agg #[.int .i64 t401, .string t402, .string t403, .string t404, .slice Ao35 t405.length co35, .slice Ao36 t408.length co36, .slice Ao37 t411.length co37, .string t414], .agg #[.string t415, .slice Ao38 t416.length co38, .slice Ao39 t419.length co39]] (by rfl) rfl rfl mA ?_
      with_reducible refine (spec_IdsOf.calls k t401 t402 t403 t404 _ _ t405 _ _ t408 _ _ t411 t414 t415 _ _ t416 _ _ t419 t422 _ ?side1 ?side2 ?side3 ?side4 ?side5 ?side6 ?side7 ?side8 ?side9 ?side10 A17.out).mono ?_
      (case side1 => repeat (first | exact (Kd.R_reads' HO407.out).2.2 | (with_reducible refine Kd.C_alloc ?_ _) | (with_reducible refine Kd.C_drewN ?_ _) | (with_reducible refine Kd.C_drew ?_)))
      (case side2 => exact (Kd.R_reads' HO407.out).2.1)
      (case side3 => repeat (first | exact (Kd.R_reads' HO410.out).2.2 | (with_reducible refine Kd.C_alloc ?_ _) | (with_reducible refine Kd.C_drewN ?_ _) | (with_reducible refine Kd.C_drew ?_)))
      (case side4 => exact (Kd.R_reads' HO410.out).2.1)
      (case side5 => repeat (first | exact (Kd.R_reads' HO413.out).2.2 | (with_reducible refine Kd.C_alloc ?_ _) | (with_reducible refine Kd.C_drewN ?_ _) | (with_reducible refine Kd.C_drew ?_)))
      (case side6 => exact (Kd.R_reads' HO413.out).2.1)
      (case side7 => repeat (first | exact (Kd.R_reads' HO418.out).2.2 | (with_reducible refine Kd.C_alloc ?_ _) | (with_reducible refine Kd.C_drewN ?_ _) | (with_reducible refine Kd.C_drew ?_)))
      (case side8 => exact (Kd.R_reads' HO418.out).2.1)
      (case side9 => repeat (first | exact (Kd.R_reads' HO421.out).2.2 | (with_reducible refine Kd.C_alloc ?_ _) | (with_reducible refine Kd.C_drewN ?_ _) | (with_reducible refine Kd.C_drew ?_)))
      (case side10 => exact (Kd.R_reads' HO421.out).2.1)
      rintro e w40 ⟨v423, rfl, ho0, hb⟩
      refine ⟨_, rfl, ?_⟩
      replace HO407 := Aside0.mk (Kd.R_below (by (with_reducible repeat (first|apply rA|apply rN|apply rD)); exact HO407.out) hb)
      replace HO413 := Aside0.mk (Kd.R_elder' (by (with_reducible repeat (first|apply rA|apply rN|apply rD)); exact HO413.out) (Kd.R_base ho0) hb)
      replace HO418 := Aside0.mk (Kd.R_below (by (with_reducible repeat (first|apply rA|apply rN|apply rD)); exact HO418.out) hb)
      replace HO421 := Aside0.mk (Kd.R_below (by (with_reducible repeat (first|apply rA|apply rN|apply rD)); exact HO421.out) hb)
      have HO424 := Aside0.mk (Kd.R_lower (Kd.R_new' ho0 (Kd.R_lt (by (with_reducible repeat (first|apply rA|apply rN|apply rD)); exact HO410.out))) (below_size hB))
      replace HO410 := Aside0.mk (Kd.R_elder' (by (with_reducible repeat (first|apply rA|apply rN|apply rD)); exact HO410.out) (Kd.R_base ho0) hb)
      replace BK397 := Aside0.mk (blk_below (g := gb397) (by (with_reducible repeat (first | refine bN ?_ _|refine bD ?_|refine bA ?_ _)); exact BK397.out) hb)
      replace BK398 := Aside0.mk (blk_below (g := gb398) (by (with_reducible repeat (first | refine bN ?_ _|refine bD ?_|refine bA ?_ _)); exact BK398.out) hb)
      replace HB := Aside0.mk (below_step hB hb)
      (try clear hb)
      (try clear hb2)
      (try clear hk)
      (try clear hi)
      (try clear ho0)
      refine hK.out _ _ ⟨(blk_cell BK397.out 0).trans rfl, (blk_cell BK397.out 1).trans rfl, (blk_cell BK397.out 2).trans rfl, (blk_cell BK397.out 3).trans rfl, (blk_cell BK397.out 4).trans rfl, (blk_cell BK397.out 5).trans rfl, (blk_cell BK397.out 6).trans rfl, (blk_cell BK397.out 7).trans rfl, (blk_cell BK398.out 0).trans rfl, (blk_cell BK398.out 1).trans rfl, (blk_cell BK398.out 2).trans rfl⟩ (fun hHeld => ?_)
      clear hK K
      refine norm_ (a' := ?_) ?_ ?_
      rotate_left
      ·show Act.put _ (some 28) _ = _
       simp only [Act.put, sT, sZ, sS, i64_w, i32_w]
       rfl
      refine pure_ (i := 5) (N := some 6) (v := ?_) (a' := ?_) (tf 6 0) rfl rfl (by kernel_rfl) (fun _ _ _ h => h) (Or.inl ⟨by rfl, ?_⟩) ?_ ?_
      rotate_left; ·intro w'; go_simp; with_reducible rfl
      rotate_left; ·simp only [Act.put, sT, sZ, sS, i64_w, i32_w]; rfl
      refine done_ (by kernel_rfl) ?_
      have hnb41 := NB397_398.out
      have hnc41 := NB398_397.out
      obtain ⟨hcz42_0, hcz42_1, hcz42_2, hcz42_3, hcz42_4, hcz42_5, hcz42_6, hcz42_7⟩ := bc8 BK397.out
      obtain ⟨hfz42_0, hfz42_1, hfz42_2, hfz42_3, hfz42_4, hfz42_5, hfz42_6, hfz42_7⟩ := bf8 BK397.out
      try go_wp2_with (first | ((with_reducible refine gate_callee (f := 7) rfl ?_); refine goesL_ (some 30) rfl rfl Tryd.func7 (by kernel_rfl) rfl #[.agg #[.int .i64 a0_0, .string a0_1, .string a0_2, .string a0_3, .slice A0_4 l0_4.length c0_4, .slice A0_5 l0_5.length c0_5, .slice A0_6 l0_6.length c0_6, .string a0_7]] rfl mA ?_; (with_reducible refine (laws_toNode.callsD k a0_0 a0_1 a0_2 a0_3 _ _ l0_4 _ _ l0_5 _ _ l0_6 a0_7 t425 t426 t427 t428 t429 t432 t435 t438 _ ?side1 ?side2 ?side3 ?side4 ?side5 ?side6 A18.out).mono ?_); (case side1 => repeat (first | exact (Kd.C_below HR0_4.out HB.out) | (with_reducible refine Kd.C_alloc ?_ _) | (with_reducible refine Kd.C_drewN ?_ _) | (with_reducible refine Kd.C_drew ?_))); (case side2 => exact HC0_4.out); (case side3 => repeat (first | exact (Kd.C_below HR0_5.out HB.out) | (with_reducible refine Kd.C_alloc ?_ _) | (with_reducible refine Kd.C_drewN ?_ _) | (with_reducible refine Kd.C_drew ?_))); (case side4 => exact HC0_5.out); (case side5 => repeat (first | exact (Kd.C_below HR0_6.out HB.out) | (with_reducible refine Kd.C_alloc ?_ _) | (with_reducible refine Kd.C_drewN ?_ _) | (with_reducible refine Kd.C_drew ?_))); (case side6 => exact HC0_6.out); rintro e w43 ⟨v430, v433, v436, rfl, ho0, ho1, ho2, hb⟩; refine ⟨_, rfl, ?_⟩; obtain ⟨N1_, hN0, hX4, hX5, hX6, hXw, hXb397, hXb398⟩ : ∃ N : Nat, w.heap.size ≤ N ∧ Kd.R k89 89 w43 N (fun _ => True) v430 t429 ∧ Kd.R k64 64 w43 N (fun _ => True) v433 t432 ∧ Kd.S kD 38 w43 N (fun k_ => some k_ ≠ (v430 : Value).ownBlock ∧ some k_ ≠ (v433 : Value).ownBlock) v436 t435 ∧ (∀ k_, some k_ = (v423 : Value).ownBlock → k_ < N) ∧ gb397 < N ∧ gb398 < N := ⟨_, below_size hB, ho0, ho1, ho2, fun k_ e_ => Kd.R_lt (by (with_reducible repeat (first|apply rA|apply rN|apply rD)); exact HO424.out) k_ e_.symm, blk_lt (g := gb397) (by (with_reducible repeat (first | refine bN ?_ _|refine bD ?_|refine bA ?_ _)); exact BK397.out), blk_lt (g := gb398) (by (with_reducible repeat (first | refine bN ?_ _|refine bD ?_|refine bA ?_ _)); exact BK398.out)⟩; have HX := Aside0.mk (And.intro hN0 (And.intro hX4 (And.intro hX5 hX6))); have HXw := Aside0.mk hXw; have HXb397 : Hid (gb397 < N1_) := hXb397; have HXb398 : Hid (gb398 < N1_) := hXb398; clear hN0 hX4 hX5 hX6 hXw hXb397 hXb398; have HB2 : Hid (Below w43.heap.size w43 _) := Below.refl _ _; replace ho2 := kD_toR ho2; replace HO418 := Aside0.mk (Kd.R_below (by (with_reducible repeat (first|apply rA|apply rN|apply rD)); exact HO418.out) hb); replace HO421 := Aside0.mk (Kd.R_below (by (with_reducible repeat (first|apply rA|apply rN|apply rD)); exact HO421.out) hb); have HO431 := Aside0.mk (Kd.R_lower (Kd.R_new' ho0 (Kd.R_lt (by (with_reducible repeat (first|apply rA|apply rN|apply rD)); exact HO407.out))) (below_size hB)); have HO434 := Aside0.mk (Kd.R_lower (Kd.R_new' (Kd.R_new' ho1 (Kd.R_lt (by (with_reducible repeat (first|apply rA|apply rN|apply rD)); exact HO410.out))) (Kd.R_lt (by (with_reducible repeat (first|apply rA|apply rN|apply rD)); exact HO424.out))) (below_size hB)); have HO437 := Aside0.mk (Kd.R_lower (Kd.R_new' (Kd.R_new' (Kd.R_new' (Kd.R_new' ho2 (Kd.R_lt (by (with_reducible repeat (first|apply rA|apply rN|apply rD)); exact HO407.out))) (Kd.R_lt (by (with_reducible repeat (first|apply rA|apply rN|apply rD)); exact HO410.out))) (Kd.R_lt (by (with_reducible repeat (first|apply rA|apply rN|apply rD)); exact HO413.out))) (Kd.R_lt (by (with_reducible repeat (first|apply rA|apply rN|apply rD)); exact HO424.out))) (below_size hB)); replace HO407 := Aside0.mk (Kd.R_elder' (by (with_reducible repeat (first|apply rA|apply rN|apply rD)); exact HO407.out) (Kd.R_base ho0) hb); replace HO410 := Aside0.mk (Kd.R_elder' (by (with_reducible repeat (first|apply rA|apply rN|apply rD)); exact HO410.out) (Kd.R_base ho1) hb); replace HO413 := Aside0.mk (Kd.R_mono (Kd.R_told (Kd.R_told (Kd.R_told (Kd.R_old (by (with_reducible repeat (first|apply rA|apply rN|apply rD)); exact HO413.out) hb) (Kd.R_base ho0)) (Kd.R_base ho1)) (Kd.R_base ho2)) (fun _ h_ => h_.1)); replace HO424 := Aside0.mk (Kd.R_elder' (by (with_reducible repeat (first|apply rA|apply rN|apply rD)); exact HO424.out) (Kd.R_base ho1) hb); replace BK397 := Aside0.mk (blk_below (g := gb397) (by (with_reducible repeat (first | refine bN ?_ _|refine bD ?_|refine bA ?_ _)); exact BK397.out) hb); replace BK398 := Aside0.mk (blk_below (g := gb398) (by (with_reducible repeat (first | refine bN ?_ _|refine bD ?_|refine bA ?_ _)); exact BK398.out) hb); replace HB := Aside0.mk (below_step hB hb); (try clear hb); (try clear hb2); (try clear hk); (try clear hi); (try clear ho0); (try clear ho1); (try clear ho2)) | ((with_reducible refine gate_dst (N := 7) rfl ?_); refine box_event ?hg (N := 7) ?hd (cs := #[.int .i64 0, .string (⟨#[]⟩ : ByteArray), .string (⟨#[]⟩ : ByteArray), .string (⟨#[]⟩ : ByteArray), .slice none 0 0, .slice none 0 0, .slice none 0 0, .string (⟨#[]⟩ : ByteArray)]) (t := 38) ?hr ?_; (case hd => rfl); (case hg => rfl); (case hr => first | (go_simp; done) | (go_simp; rfl)); intro gb439 hg w44 hbox hb; replace HO407 := Aside0.mk (Kd.R_below (by (with_reducible repeat (first|apply rA|apply rN|apply rD)); exact HO407.out) hb); replace HO410 := Aside0.mk (Kd.R_below (by (with_reducible repeat (first|apply rA|apply rN|apply rD)); exact HO410.out) hb); replace HO413 := Aside0.mk (Kd.R_below (Kd.R_elderB (by (with_reducible repeat (first|apply rA|apply rN|apply rD)); exact HO413.out) gb439 (Nat.le_of_eq hg.symm)) hb); replace HO418 := Aside0.mk (Kd.R_below (by (with_reducible repeat (first|apply rA|apply rN|apply rD)); exact HO418.out) hb); replace HO421 := Aside0.mk (Kd.R_below (by (with_reducible repeat (first|apply rA|apply rN|apply rD)); exact HO421.out) hb); replace HO424 := Aside0.mk (Kd.R_below (by (with_reducible repeat (first|apply rA|apply rN|apply rD)); exact HO424.out) hb); replace HO431 := Aside0.mk (Kd.R_below (by (with_reducible repeat (first|apply rA|apply rN|apply rD)); exact HO431.out) hb); replace HO434 := Aside0.mk (Kd.R_below (by (with_reducible repeat (first|apply rA|apply rN|apply rD)); exact HO434.out) hb); replace HO437 := Aside0.mk (Kd.R_below (Kd.R_elderB (by (with_reducible repeat (first|apply rA|apply rN|apply rD)); exact HO437.out) gb439 (Nat.le_of_eq hg.symm)) hb); have BK439 := Aside0.mk (hbox); have GW439 := Aside0.mk ((by rw [hg]; exact (below_size hB) : w.heap.size ≤ gb439)); have GE439 := Aside0.mk ((by rw [hg]; exact (below_size hB) : w.heap.size ≤ gb439)); have GF439 : Hid (w43.heap.size ≤ gb439) := (by rw [hg]; exact (below_size (by repeat (first|(with_reducible first|exact HB2.out|apply zA|apply zN|apply zD|refine below_set ?_ GF439.out|refine below_set ?_ GF447.out) | exact HB2.out))) : w43.heap.size ≤ gb439); replace HB := Aside0.mk (below_step hB hb); replace HB2 : Hid (Below w43.heap.size w43 _) := below_step (by repeat (first|(with_reducible first|exact HB2.out|apply zA|apply zN|apply zD|refine below_set ?_ GF439.out|refine below_set ?_ GF447.out) | exact HB2.out)) hb; have NB397_439 := Aside0.mk ((by rw [hg]; exact Nat.ne_of_lt (blk_lt (g := gb397) (by (with_reducible repeat (first | refine bN ?_ _|refine bD ?_|refine bA ?_ _)); exact BK397.out)) : gb397 ≠ gb439)); have NB439_397 := Aside0.mk ((by rw [hg]; exact Nat.ne_of_gt (blk_lt (g := gb397) (by (with_reducible repeat (first | refine bN ?_ _|refine bD ?_|refine bA ?_ _)); exact BK397.out)) : gb439 ≠ gb397)); replace BK397 := Aside0.mk (blk_below (g := gb397) (by (with_reducible repeat (first | refine bN ?_ _|refine bD ?_|refine bA ?_ _)); exact BK397.out) hb); have NB398_439 := Aside0.mk ((by rw [hg]; exact Nat.ne_of_lt (blk_lt (g := gb398) (by (with_reducible repeat (first | refine bN ?_ _|refine bD ?_|refine bA ?_ _)); exact BK398.out)) : gb398 ≠ gb439)); have NB439_398 := Aside0.mk ((by rw [hg]; exact Nat.ne_of_gt (blk_lt (g := gb398) (by (with_reducible repeat (first | refine bN ?_ _|refine bD ?_|refine bA ?_ _)); exact BK398.out)) : gb439 ≠ gb398)); replace BK398 := Aside0.mk (blk_below (g := gb398) (by (with_reducible repeat (first | refine bN ?_ _|refine bD ?_|refine bA ?_ _)); exact BK398.out) hb); clear hb hbox hg; have hnb45 := NB439_397.out; have hnc45 := NB397_439.out; have hnb46 := NB439_398.out; have hnc46 := NB398_439.out; obtain ⟨hcz47_0, hcz47_1, hcz47_2, hcz47_3, hcz47_4, hcz47_5, hcz47_6, hcz47_7⟩ := bc8 BK439.out; obtain ⟨hfz47_0, hfz47_1, hfz47_2, hfz47_3, hfz47_4, hfz47_5, hfz47_6, hfz47_7⟩ := bf8 BK439.out; obtain ⟨Ao48, co48, eo48⟩ := Kd.R_slice HO431.out; subst eo48; obtain ⟨Ao49, co49, eo49⟩ := Kd.R_slice HO434.out; subst eo49; obtain ⟨Ao50, co50, eo50⟩ := Kd.R_slice HO437.out; subst eo50; obtain ⟨hcz51_0, hcz51_1, hcz51_2⟩ := bc3 BK398.out; obtain ⟨hfz51_0, hfz51_1, hfz51_2⟩ := bf3 BK398.out) | ((with_reducible refine gate_callee (f := 8) rfl ?_); refine goesL_ (some 32) rfl rfl Tryd.func8 (by kernel_rfl) rfl #[.agg #[.string a1_0, .slice A1_1 l1_1.length c1_1, .slice A1_2 l1_2.length c1_2]] rfl mA ?_; (with_reducible refine (laws_toHead.calls k a1_0 _ _ l1_1 _ _ l1_2 t440 t441 t444 _ ?side1 ?side2 ?side3 ?side4 A19.out).mono ?_); (case side1 => exact Kd.C_below HR1_1.out hB); (case side2 => exact HC1_1.out); (case side3 => exact Kd.C_below HR1_2.out hB); (case side4 => exact HC1_2.out); rintro e w52 ⟨v442, v445, rfl, ho0, ho1, hb⟩; refine ⟨_, rfl, ?_⟩; have HL442 := Aside0.mk (show ∀ k_, some k_ = (v442 : Value).ownBlock → w43.heap.size ≤ k_ from fun k_ e_ => Nat.le_trans (below_size (by repeat (first|(with_reducible first|exact HB2.out|apply zA|apply zN|apply zD|refine below_set ?_ GF439.out|refine below_set ?_ GF447.out) | exact HB2.out))) (Kd.R_base ho0 k_ e_.symm)); have HL445 := Aside0.mk (show ∀ k_, some k_ = (v445 : Value).ownBlock → w43.heap.size ≤ k_ from fun k_ e_ => Nat.le_trans (below_size (by repeat (first|(with_reducible first|exact HB2.out|apply zA|apply zN|apply zD|refine below_set ?_ GF439.out|refine below_set ?_ GF447.out) | exact HB2.out))) (Kd.R_base ho1 k_ e_.symm)); replace HO407 := Aside0.mk (Kd.R_below (by (with_reducible repeat (first|apply rA|apply rN|apply rD)); exact (laws_FnExactIdsOf.far8 (Kd.R_types HO407.out BK439.out (by decide)))) hb); replace HO410 := Aside0.mk (Kd.R_below (by (with_reducible repeat (first|apply rA|apply rN|apply rD)); exact (laws_FnExactIdsOf.far8 (Kd.R_types HO410.out BK439.out (by decide)))) hb); replace HO413 := Aside0.mk (Kd.R_below (by (with_reducible repeat (first|apply rA|apply rN|apply rD)); exact (Kd.R_mono (Kd.R_far (p := ⟨gb439, 7, none⟩) (Kd.R_far (p := ⟨gb439, 6, none⟩) (Kd.R_far (p := ⟨gb439, 5, none⟩) (Kd.R_far (p := ⟨gb439, 4, none⟩) (Kd.R_far (p := ⟨gb439, 3, none⟩) (Kd.R_far (p := ⟨gb439, 2, none⟩) (Kd.R_far (p := ⟨gb439, 1, none⟩) (Kd.R_far (p := ⟨gb439, 0, none⟩) (Kd.R_mono HO413.out (fun k_ hk => (⟨hk, hk.2⟩ : _ ∧ k_ ≠ gb439))) (fun _ hk => hk.2) (.int .i64 t425)) (fun _ hk => hk.2) (.string t426)) (fun _ hk => hk.2) (.string t427)) (fun _ hk => hk.2) (.string t428)) (fun _ hk => hk.2) (.slice Ao48 t429.length co48)) (fun _ hk => hk.2) (.slice Ao49 t432.length co49)) (fun _ hk => hk.2) (.slice Ao50 t435.length co50)) (fun _ hk => hk.2) (.string t438)) (fun _ h_ => h_.1))) hb); replace HO424 := Aside0.mk (Kd.R_below (by (with_reducible repeat (first|apply rA|apply rN|apply rD)); exact (laws_FnExactIdsOf.far8 (Kd.R_types HO424.out BK439.out (by decide)))) hb); replace HO431 := Aside0.mk (Kd.R_below (by (with_reducible repeat (first|apply rA|apply rN|apply rD)); exact (laws_FnExactIdsOf.far8 (Kd.R_types HO431.out BK439.out (by decide)))) hb); replace HO434 := Aside0.mk (Kd.R_below (by (with_reducible repeat (first|apply rA|apply rN|apply rD)); exact (laws_FnExactIdsOf.far8 (Kd.R_types HO434.out BK439.out (by decide)))) hb); replace HO437 := Aside0.mk (Kd.R_below (by (with_reducible repeat (first|apply rA|apply rN|apply rD)); exact (Kd.R_mono (Kd.R_far (p := ⟨gb439, 7, none⟩) (Kd.R_far (p := ⟨gb439, 6, none⟩) (Kd.R_far (p := ⟨gb439, 5, none⟩) (Kd.R_far (p := ⟨gb439, 4, none⟩) (Kd.R_far (p := ⟨gb439, 3, none⟩) (Kd.R_far (p := ⟨gb439, 2, none⟩) (Kd.R_far (p := ⟨gb439, 1, none⟩) (Kd.R_far (p := ⟨gb439, 0, none⟩) (Kd.R_mono HO437.out (fun k_ hk => (⟨hk, hk.2⟩ : _ ∧ k_ ≠ gb439))) (fun _ hk => hk.2) (.int .i64 t425)) (fun _ hk => hk.2) (.string t426)) (fun _ hk => hk.2) (.string t427)) (fun _ hk => hk.2) (.string t428)) (fun _ hk => hk.2) (.slice Ao48 t429.length co48)) (fun _ hk => hk.2) (.slice Ao49 t432.length co49)) (fun _ hk => hk.2) (.slice Ao50 t435.length co50)) (fun _ hk => hk.2) (.string t438)) (fun _ h_ => h_.1))) hb); have HO443 := Aside0.mk (Kd.R_lower (Kd.R_new' ho0 (Kd.R_lt (by (with_reducible repeat (first|apply rA|apply rN|apply rD)); exact (laws_FnExactIdsOf.far8 (Kd.R_types HO418.out BK439.out (by decide)))))) (below_size hB)); replace HO418 := Aside0.mk (Kd.R_elder' (by (with_reducible repeat (first|apply rA|apply rN|apply rD)); exact (laws_FnExactIdsOf.far8 (Kd.R_types HO418.out BK439.out (by decide)))) (Kd.R_base ho0) hb); have HO446 := Aside0.mk (Kd.R_lower (Kd.R_new' ho1 (Kd.R_lt (by (with_reducible repeat (first|apply rA|apply rN|apply rD)); exact (laws_FnExactIdsOf.far8 (Kd.R_types HO421.out BK439.out (by decide)))))) (below_size hB)); replace HO421 := Aside0.mk (Kd.R_elder' (by (with_reducible repeat (first|apply rA|apply rN|apply rD)); exact (laws_FnExactIdsOf.far8 (Kd.R_types HO421.out BK439.out (by decide)))) (Kd.R_base ho1) hb); replace BK397 := Aside0.mk (blk_below (g := gb397) (by (with_reducible repeat (first | refine bN ?_ _|refine bD ?_|refine bA ?_ _)); exact pfa8 (hn := NB397_439.out) (by (with_reducible repeat (first | refine bN ?_ _|refine bD ?_|refine bA ?_ _)); exact BK397.out)) hb); replace BK398 := Aside0.mk (blk_below (g := gb398) (by (with_reducible repeat (first | refine bN ?_ _|refine bD ?_|refine bA ?_ _)); exact pfa8 (hn := NB398_439.out) (by (with_reducible repeat (first | refine bN ?_ _|refine bD ?_|refine bA ?_ _)); exact BK398.out)) hb); replace BK439 := Aside0.mk (blk_below (g := gb439) (by (with_reducible repeat (first | refine bN ?_ _|refine bD ?_|refine bA ?_ _)); exact put8 (by (with_reducible repeat (first | refine bN ?_ _|refine bD ?_|refine bA ?_ _)); exact BK439.out)) hb); replace HB := Aside0.mk (below_step hB hb); replace HB2 : Hid (Below w43.heap.size w43 _) := below_step (by repeat (first|(with_reducible first|exact HB2.out|apply zA|apply zN|apply zD|refine below_set ?_ GF439.out|refine below_set ?_ GF447.out) | exact HB2.out)) hb; (try clear hb); (try clear hb2); (try clear hk); (try clear hi); (try clear ho0); (try clear ho1)) | ((with_reducible refine gate_dst (N := 8) rfl ?_); refine box_event ?hg (N := 8) ?hd (cs := #[.string (⟨#[]⟩ : ByteArray), .slice none 0 0, .slice none 0 0]) (t := 43) ?hr ?_; (case hd => rfl); (case hg => rfl); (case hr => first | (go_simp; done) | (go_simp; rfl)); intro gb447 hg w53 hbox hb; replace HO407 := Aside0.mk (Kd.R_below (by (with_reducible repeat (first|apply rA|apply rN|apply rD)); exact HO407.out) hb); replace HO410 := Aside0.mk (Kd.R_below (by (with_reducible repeat (first|apply rA|apply rN|apply rD)); exact HO410.out) hb); replace HO413 := Aside0.mk (Kd.R_below (by (with_reducible repeat (first|apply rA|apply rN|apply rD)); exact HO413.out) hb); replace HO418 := Aside0.mk (Kd.R_below (by (with_reducible repeat (first|apply rA|apply rN|apply rD)); exact HO418.out) hb); replace HO421 := Aside0.mk (Kd.R_below (by (with_reducible repeat (first|apply rA|apply rN|apply rD)); exact HO421.out) hb); replace HO424 := Aside0.mk (Kd.R_below (by (with_reducible repeat (first|apply rA|apply rN|apply rD)); exact HO424.out) hb); replace HO431 := Aside0.mk (Kd.R_below (by (with_reducible repeat (first|apply rA|apply rN|apply rD)); exact HO431.out) hb); replace HO434 := Aside0.mk (Kd.R_below (by (with_reducible repeat (first|apply rA|apply rN|apply rD)); exact HO434.out) hb); replace HO437 := Aside0.mk (Kd.R_below (by (with_reducible repeat (first|apply rA|apply rN|apply rD)); exact HO437.out) hb); replace HO443 := Aside0.mk (Kd.R_below (by (with_reducible repeat (first|apply rA|apply rN|apply rD)); exact HO443.out) hb); replace HO446 := Aside0.mk (Kd.R_below (by (with_reducible repeat (first|apply rA|apply rN|apply rD)); exact HO446.out) hb); have BK447 := Aside0.mk (hbox); have GW447 := Aside0.mk ((by rw [hg]; exact (below_size hB) : w.heap.size ≤ gb447)); have GE447 := Aside0.mk ((by rw [hg]; exact (below_size hB) : w.heap.size ≤ gb447)); have GF447 : Hid (w43.heap.size ≤ gb447) := (by rw [hg]; exact (below_size (by repeat (first|(with_reducible first|exact HB2.out|apply zA|apply zN|apply zD|refine below_set ?_ GF439.out|refine below_set ?_ GF447.out) | exact HB2.out))) : w43.heap.size ≤ gb447); replace HB := Aside0.mk (below_step hB hb); replace HB2 : Hid (Below w43.heap.size w43 _) := below_step (by repeat (first|(with_reducible first|exact HB2.out|apply zA|apply zN|apply zD|refine below_set ?_ GF439.out|refine below_set ?_ GF447.out) | exact HB2.out)) hb; have NB397_447 := Aside0.mk ((by rw [hg]; exact Nat.ne_of_lt (blk_lt (g := gb397) (by (with_reducible repeat (first | refine bN ?_ _|refine bD ?_|refine bA ?_ _)); exact BK397.out)) : gb397 ≠ gb447)); have NB447_397 := Aside0.mk ((by rw [hg]; exact Nat.ne_of_gt (blk_lt (g := gb397) (by (with_reducible repeat (first | refine bN ?_ _|refine bD ?_|refine bA ?_ _)); exact BK397.out)) : gb447 ≠ gb397)); replace BK397 := Aside0.mk (blk_below (g := gb397) (by (with_reducible repeat (first | refine bN ?_ _|refine bD ?_|refine bA ?_ _)); exact BK397.out) hb); have NB398_447 := Aside0.mk ((by rw [hg]; exact Nat.ne_of_lt (blk_lt (g := gb398) (by (with_reducible repeat (first | refine bN ?_ _|refine bD ?_|refine bA ?_ _)); exact BK398.out)) : gb398 ≠ gb447)); have NB447_398 := Aside0.mk ((by rw [hg]; exact Nat.ne_of_gt (blk_lt (g := gb398) (by (with_reducible repeat (first | refine bN ?_ _|refine bD ?_|refine bA ?_ _)); exact BK398.out)) : gb447 ≠ gb398)); replace BK398 := Aside0.mk (blk_below (g := gb398) (by (with_reducible repeat (first | refine bN ?_ _|refine bD ?_|refine bA ?_ _)); exact BK398.out) hb); have NB439_447 := Aside0.mk ((by rw [hg]; exact Nat.ne_of_lt (blk_lt (g := gb439) (by (with_reducible repeat (first | refine bN ?_ _|refine bD ?_|refine bA ?_ _)); exact BK439.out)) : gb439 ≠ gb447)); have NB447_439 := Aside0.mk ((by rw [hg]; exact Nat.ne_of_gt (blk_lt (g := gb439) (by (with_reducible repeat (first | refine bN ?_ _|refine bD ?_|refine bA ?_ _)); exact BK439.out)) : gb447 ≠ gb439)); replace BK439 := Aside0.mk (blk_below (g := gb439) (by (with_reducible repeat (first | refine bN ?_ _|refine bD ?_|refine bA ?_ _)); exact BK439.out) hb); clear hb hbox hg; have hnb54 := NB447_397.out; have hnc54 := NB397_447.out; have hnb55 := NB447_398.out; have hnc55 := NB398_447.out; have hnb56 := NB447_439.out; have hnc56 := NB439_447.out; obtain ⟨hcz57_0, hcz57_1, hcz57_2⟩ := bc3 BK447.out; obtain ⟨hfz57_0, hfz57_1, hfz57_2⟩ := bf3 BK447.out; obtain ⟨Ao58, co58, eo58⟩ := Kd.R_slice HO443.out; subst eo58; obtain ⟨Ao59, co59, eo59⟩ := Kd.R_slice HO446.out; subst eo59; obtain ⟨hcz60_0, hcz60_1, hcz60_2, hcz60_3, hcz60_4, hcz60_5, hcz60_6, hcz60_7⟩ := bc8 BK439.out; obtain ⟨hfz60_0, hfz60_1, hfz60_2, hfz60_3, hfz60_4, hfz60_5, hfz60_6, hfz60_7⟩ := bf8 BK439.out) | ((with_reducible refine gate_callee (f := 9) rfl ?_); refine goesL_ (some 35) rfl rfl Tryd.func9 (by kernel_rfl) rfl #[.agg #[.int .i64 t425, .string t426, .string t427, .string t428, .slice Ao48 t429.length co48, .slice Ao49 t432.length co49, .slice Ao50 t435.length co50, .string t438], .agg #[.string t440, .slice Ao58 t441.length co58, .slice Ao59 t444.length co59]] rfl mA ?_; (with_reducible refine (impl_IdsOf.calls k t425 t426 t427 t428 _ _ t429 _ _ t432 _ _ t435 t438 t440 _ _ t441 _ _ t444 t448 _ ?side1 ?side2 ?side3 ?side4 ?side5 ?side6 ?side7 ?side8 ?side9 ?side10 ?tabs A20.out).mono ?_); (case tabs => first | exact Tabs.below HT.out hB | (repeat (first | exact HT.out | (with_reducible refine Tabs.drewN ?_ _) | (with_reducible refine Tabs.drew ?_) | (with_reducible refine Tabs.alloc ?_ _)))); (case side1 => refine (Kd.R_reads' (e := 89) (base := w.heap.size) (ok := fun k_ => (True ∧ some k_ ≠ (.slice Ao35 t405.length co35 : Value).ownBlock)) (n := t429.length) (c := co48) ?_).2.2; exact (by (with_reducible repeat (first|apply rA|apply rN|apply rD)); exact (Kd.R_mono (Kd.R_far (p := ⟨gb447, 2, none⟩) (Kd.R_far (p := ⟨gb447, 1, none⟩) (Kd.R_far (p := ⟨gb447, 0, none⟩) (Kd.R_types HO431.out BK447.out (by decide)) (fun _ hk => hk.2) (.string t440)) (fun _ hk => hk.2) (.slice Ao58 t441.length co58)) (fun _ hk => hk.2) (.slice Ao59 t444.length co59)) (fun _ h_ => h_.1)))); (case side2 => exact (Kd.R_reads' HO431.out).2.1); (case side3 => refine (Kd.R_reads' (e := 64) (base := w.heap.size) (ok := fun k_ => ((True ∧ some k_ ≠ (.slice Ao36 t408.length co36 : Value).ownBlock) ∧ some k_ ≠ (v423 : Value).ownBlock)) (n := t432.length) (c := co49) ?_).2.2; exact (by (with_reducible repeat (first|apply rA|apply rN|apply rD)); exact (Kd.R_mono (Kd.R_far (p := ⟨gb447, 2, none⟩) (Kd.R_far (p := ⟨gb447, 1, none⟩) (Kd.R_far (p := ⟨gb447, 0, none⟩) (Kd.R_types HO434.out BK447.out (by decide)) (fun _ hk => hk.2) (.string t440)) (fun _ hk => hk.2) (.slice Ao58 t441.length co58)) (fun _ hk => hk.2) (.slice Ao59 t444.length co59)) (fun _ h_ => h_.1)))); (case side4 => exact (Kd.R_reads' HO434.out).2.1); (case side5 => refine (Kd.R_reads' (e := 38) (base := w.heap.size) (ok := fun k_ => ((((((some k_ ≠ (.slice Ao48 t429.length co48 : Value).ownBlock ∧ some k_ ≠ (.slice Ao49 t432.length co49 : Value).ownBlock) ∧ some k_ ≠ (.slice Ao35 t405.length co35 : Value).ownBlock) ∧ some k_ ≠ (.slice Ao36 t408.length co36 : Value).ownBlock) ∧ some k_ ≠ (.slice Ao37 t411.length co37 : Value).ownBlock) ∧ some k_ ≠ (v423 : Value).ownBlock) ∧ k_ ≠ gb439)) (n := t435.length) (c := co50) ?_).2.2; exact (by (with_reducible repeat (first|apply rA|apply rN|apply rD)); exact (Kd.R_mono (Kd.R_far (p := ⟨gb447, 2, none⟩) (Kd.R_far (p := ⟨gb447, 1, none⟩) (Kd.R_far (p := ⟨gb447, 0, none⟩) (Kd.R_types HO437.out BK447.out (by decide)) (fun _ hk => hk.2) (.string t440)) (fun _ hk => hk.2) (.slice Ao58 t441.length co58)) (fun _ hk => hk.2) (.slice Ao59 t444.length co59)) (fun _ h_ => h_.1)))); (case side6 => exact (Kd.R_reads' HO437.out).2.1); (case side7 => refine (Kd.R_reads' (e := 92) (base := w.heap.size) (ok := fun k_ => (True ∧ some k_ ≠ (.slice Ao38 t416.length co38 : Value).ownBlock)) (n := t441.length) (c := co58) ?_).2.2; exact (by (with_reducible repeat (first|apply rA|apply rN|apply rD)); exact (Kd.R_mono (Kd.R_far (p := ⟨gb447, 2, none⟩) (Kd.R_far (p := ⟨gb447, 1, none⟩) (Kd.R_far (p := ⟨gb447, 0, none⟩) (Kd.R_types HO443.out BK447.out (by decide)) (fun _ hk => hk.2) (.string t440)) (fun _ hk => hk.2) (.slice Ao58 t441.length co58)) (fun _ hk => hk.2) (.slice Ao59 t444.length co59)) (fun _ h_ => h_.1)))); (case side8 => exact (Kd.R_reads' HO443.out).2.1); (case side9 => refine (Kd.R_reads' (e := 85) (base := w.heap.size) (ok := fun k_ => (True ∧ some k_ ≠ (.slice Ao39 t419.length co39 : Value).ownBlock)) (n := t444.length) (c := co59) ?_).2.2; exact (by (with_reducible repeat (first|apply rA|apply rN|apply rD)); exact (Kd.R_mono (Kd.R_far (p := ⟨gb447, 2, none⟩) (Kd.R_far (p := ⟨gb447, 1, none⟩) (Kd.R_far (p := ⟨gb447, 0, none⟩) (Kd.R_types HO446.out BK447.out (by decide)) (fun _ hk => hk.2) (.string t440)) (fun _ hk => hk.2) (.slice Ao58 t441.length co58)) (fun _ hk => hk.2) (.slice Ao59 t444.length co59)) (fun _ h_ => h_.1)))); (case side10 => exact (Kd.R_reads' HO446.out).2.1); rintro e w61 ⟨v449, rfl, ho0, hb⟩; refine ⟨_, rfl, ?_⟩; have HL449 := Aside0.mk (show ∀ k_, some k_ = (v449 : Value).ownBlock → w43.heap.size ≤ k_ from fun k_ e_ => Nat.le_trans (below_size (by repeat (first|(with_reducible first|exact HB2.out|apply zA|apply zN|apply zD|refine below_set ?_ GF439.out|refine below_set ?_ GF447.out) | exact HB2.out))) (Kd.R_base ho0 k_ e_.symm)); replace HO407 := Aside0.mk (Kd.R_below (by (with_reducible repeat (first|apply rA|apply rN|apply rD)); exact (Kd.R_mono (Kd.R_far (p := ⟨gb447, 2, none⟩) (Kd.R_far (p := ⟨gb447, 1, none⟩) (Kd.R_far (p := ⟨gb447, 0, none⟩) (Kd.R_types HO407.out BK447.out (by decide)) (fun _ hk => hk.2) (.string t440)) (fun _ hk => hk.2) (.slice Ao58 t441.length co58)) (fun _ hk => hk.2) (.slice Ao59 t444.length co59)) (fun _ h_ => h_.1))) hb); replace HO413 := Aside0.mk (Kd.R_elder' (by (with_reducible repeat (first|apply rA|apply rN|apply rD)); exact (Kd.R_mono (Kd.R_far (p := ⟨gb447, 2, none⟩) (Kd.R_far (p := ⟨gb447, 1, none⟩) (Kd.R_far (p := ⟨gb447, 0, none⟩) (Kd.R_types HO413.out BK447.out (by decide)) (fun _ hk => hk.2) (.string t440)) (fun _ hk => hk.2) (.slice Ao58 t441.length co58)) (fun _ hk => hk.2) (.slice Ao59 t444.length co59)) (fun _ h_ => h_.1))) (Kd.R_base ho0) hb); replace HO418 := Aside0.mk (Kd.R_below (by (with_reducible repeat (first|apply rA|apply rN|apply rD)); exact (Kd.R_mono (Kd.R_far (p := ⟨gb447, 2, none⟩) (Kd.R_far (p := ⟨gb447, 1, none⟩) (Kd.R_far (p := ⟨gb447, 0, none⟩) (Kd.R_types HO418.out BK447.out (by decide)) (fun _ hk => hk.2) (.string t440)) (fun _ hk => hk.2) (.slice Ao58 t441.length co58)) (fun _ hk => hk.2) (.slice Ao59 t444.length co59)) (fun _ h_ => h_.1))) hb); replace HO421 := Aside0.mk (Kd.R_below (by (with_reducible repeat (first|apply rA|apply rN|apply rD)); exact (Kd.R_mono (Kd.R_far (p := ⟨gb447, 2, none⟩) (Kd.R_far (p := ⟨gb447, 1, none⟩) (Kd.R_far (p := ⟨gb447, 0, none⟩) (Kd.R_types HO421.out BK447.out (by decide)) (fun _ hk => hk.2) (.string t440)) (fun _ hk => hk.2) (.slice Ao58 t441.length co58)) (fun _ hk => hk.2) (.slice Ao59 t444.length co59)) (fun _ h_ => h_.1))) hb); replace HO431 := Aside0.mk (Kd.R_below (by (with_reducible repeat (first|apply rA|apply rN|apply rD)); exact (Kd.R_mono (Kd.R_far (p := ⟨gb447, 2, none⟩) (Kd.R_far (p := ⟨gb447, 1, none⟩) (Kd.R_far (p := ⟨gb447, 0, none⟩) (Kd.R_types HO431.out BK447.out (by decide)) (fun _ hk => hk.2) (.string t440)) (fun _ hk => hk.2) (.slice Ao58 t441.length co58)) (fun _ hk => hk.2) (.slice Ao59 t444.length co59)) (fun _ h_ => h_.1))) hb); replace HO437 := Aside0.mk (Kd.R_elder' (by (with_reducible repeat (first|apply rA|apply rN|apply rD)); exact (Kd.R_mono (Kd.R_far (p := ⟨gb447, 2, none⟩) (Kd.R_far (p := ⟨gb447, 1, none⟩) (Kd.R_far (p := ⟨gb447, 0, none⟩) (Kd.R_types HO437.out BK447.out (by decide)) (fun _ hk => hk.2) (.string t440)) (fun _ hk => hk.2) (.slice Ao58 t441.length co58)) (fun _ hk => hk.2) (.slice Ao59 t444.length co59)) (fun _ h_ => h_.1))) (Kd.R_base ho0) hb); replace HO443 := Aside0.mk (Kd.R_below (by (with_reducible repeat (first|apply rA|apply rN|apply rD)); exact (Kd.R_mono (Kd.R_far (p := ⟨gb447, 2, none⟩) (Kd.R_far (p := ⟨gb447, 1, none⟩) (Kd.R_far (p := ⟨gb447, 0, none⟩) (Kd.R_types HO443.out BK447.out (by decide)) (fun _ hk => hk.2) (.string t440)) (fun _ hk => hk.2) (.slice Ao58 t441.length co58)) (fun _ hk => hk.2) (.slice Ao59 t444.length co59)) (fun _ h_ => h_.1))) hb); replace HO446 := Aside0.mk (Kd.R_below (by (with_reducible repeat (first|apply rA|apply rN|apply rD)); exact (Kd.R_mono (Kd.R_far (p := ⟨gb447, 2, none⟩) (Kd.R_far (p := ⟨gb447, 1, none⟩) (Kd.R_far (p := ⟨gb447, 0, none⟩) (Kd.R_types HO446.out BK447.out (by decide)) (fun _ hk => hk.2) (.string t440)) (fun _ hk => hk.2) (.slice Ao58 t441.length co58)) (fun _ hk => hk.2) (.slice Ao59 t444.length co59)) (fun _ h_ => h_.1))) hb); have HO450 := Aside0.mk (Kd.R_lower (Kd.R_new' (Kd.R_new' (Kd.R_new' ho0 (Kd.R_lt (by (with_reducible repeat (first|apply rA|apply rN|apply rD)); exact (Kd.R_mono (Kd.R_far (p := ⟨gb447, 2, none⟩) (Kd.R_far (p := ⟨gb447, 1, none⟩) (Kd.R_far (p := ⟨gb447, 0, none⟩) (Kd.R_types HO410.out BK447.out (by decide)) (fun _ hk => hk.2) (.string t440)) (fun _ hk => hk.2) (.slice Ao58 t441.length co58)) (fun _ hk => hk.2) (.slice Ao59 t444.length co59)) (fun _ h_ => h_.1))))) (Kd.R_lt (by (with_reducible repeat (first|apply rA|apply rN|apply rD)); exact (Kd.R_mono (Kd.R_far (p := ⟨gb447, 2, none⟩) (Kd.R_far (p := ⟨gb447, 1, none⟩) (Kd.R_far (p := ⟨gb447, 0, none⟩) (Kd.R_types HO424.out BK447.out (by decide)) (fun _ hk => hk.2) (.string t440)) (fun _ hk => hk.2) (.slice Ao58 t441.length co58)) (fun _ hk => hk.2) (.slice Ao59 t444.length co59)) (fun _ h_ => h_.1))))) (Kd.R_lt (by (with_reducible repeat (first|apply rA|apply rN|apply rD)); exact (Kd.R_mono (Kd.R_far (p := ⟨gb447, 2, none⟩) (Kd.R_far (p := ⟨gb447, 1, none⟩) (Kd.R_far (p := ⟨gb447, 0, none⟩) (Kd.R_types HO434.out BK447.out (by decide)) (fun _ hk => hk.2) (.string t440)) (fun _ hk => hk.2) (.slice Ao58 t441.length co58)) (fun _ hk => hk.2) (.slice Ao59 t444.length co59)) (fun _ h_ => h_.1))))) (below_size hB)); replace HO410 := Aside0.mk (Kd.R_elder' (by (with_reducible repeat (first|apply rA|apply rN|apply rD)); exact (Kd.R_mono (Kd.R_far (p := ⟨gb447, 2, none⟩) (Kd.R_far (p := ⟨gb447, 1, none⟩) (Kd.R_far (p := ⟨gb447, 0, none⟩) (Kd.R_types HO410.out BK447.out (by decide)) (fun _ hk => hk.2) (.string t440)) (fun _ hk => hk.2) (.slice Ao58 t441.length co58)) (fun _ hk => hk.2) (.slice Ao59 t444.length co59)) (fun _ h_ => h_.1))) (Kd.R_base ho0) hb); replace HO424 := Aside0.mk (Kd.R_elder' (by (with_reducible repeat (first|apply rA|apply rN|apply rD)); exact (Kd.R_mono (Kd.R_far (p := ⟨gb447, 2, none⟩) (Kd.R_far (p := ⟨gb447, 1, none⟩) (Kd.R_far (p := ⟨gb447, 0, none⟩) (Kd.R_types HO424.out BK447.out (by decide)) (fun _ hk => hk.2) (.string t440)) (fun _ hk => hk.2) (.slice Ao58 t441.length co58)) (fun _ hk => hk.2) (.slice Ao59 t444.length co59)) (fun _ h_ => h_.1))) (Kd.R_base ho0) hb); replace HO434 := Aside0.mk (Kd.R_elder' (by (with_reducible repeat (first|apply rA|apply rN|apply rD)); exact (Kd.R_mono (Kd.R_far (p := ⟨gb447, 2, none⟩) (Kd.R_far (p := ⟨gb447, 1, none⟩) (Kd.R_far (p := ⟨gb447, 0, none⟩) (Kd.R_types HO434.out BK447.out (by decide)) (fun _ hk => hk.2) (.string t440)) (fun _ hk => hk.2) (.slice Ao58 t441.length co58)) (fun _ hk => hk.2) (.slice Ao59 t444.length co59)) (fun _ h_ => h_.1))) (Kd.R_base ho0) hb); replace BK397 := Aside0.mk (blk_below (g := gb397) (by (with_reducible repeat (first | refine bN ?_ _|refine bD ?_|refine bA ?_ _)); exact pfa3 (hn := NB397_447.out) (by (with_reducible repeat (first | refine bN ?_ _|refine bD ?_|refine bA ?_ _)); exact BK397.out)) hb); replace BK398 := Aside0.mk (blk_below (g := gb398) (by (with_reducible repeat (first | refine bN ?_ _|refine bD ?_|refine bA ?_ _)); exact pfa3 (hn := NB398_447.out) (by (with_reducible repeat (first | refine bN ?_ _|refine bD ?_|refine bA ?_ _)); exact BK398.out)) hb); replace BK439 := Aside0.mk (blk_below (g := gb439) (by (with_reducible repeat (first | refine bN ?_ _|refine bD ?_|refine bA ?_ _)); exact pfa3 (hn := NB439_447.out) (by (with_reducible repeat (first | refine bN ?_ _|refine bD ?_|refine bA ?_ _)); exact BK439.out)) hb); replace BK447 := Aside0.mk (blk_below (g := gb447) (by (with_reducible repeat (first | refine bN ?_ _|refine bD ?_|refine bA ?_ _)); exact put3 (by (with_reducible repeat (first | refine bN ?_ _|refine bD ?_|refine bA ?_ _)); exact BK447.out)) hb); replace HB := Aside0.mk (below_step hB hb); replace HB2 : Hid (Below w43.heap.size w43 _) := below_step (by repeat (first|(with_reducible first|exact HB2.out|apply zA|apply zN|apply zD|refine below_set ?_ GF439.out|refine below_set ?_ GF447.out) | exact HB2.out)) hb; (try clear hb); (try clear hb2); (try clear hk); (try clear hi); (try clear ho0); obtain ⟨Ao62, co62, eo62⟩ := Kd.R_slice HO450.out; subst eo62; obtain ⟨Ao63, co63, eo63⟩ := Kd.R_slice HO424.out; subst eo63) | ((with_reducible refine gate_callee (f := 10) rfl ?_); refine goesL_ (some 38) rfl rfl Tryd.func10 (by kernel_rfl) rfl #[.slice Ao62 t448.length co62, .slice Ao63 t422.length co63] rfl mA ?_; (with_reducible refine (laws_eqAttrS.calls k _ _ t448 _ _ t422 true _ ?side1 ?side2 ?side3 ?side4 A21.out).mono ?_); (case side1 => repeat (first | exact (Kd.R_reads' HO450.out).2.2 | (with_reducible refine Kd.C_alloc ?_ _) | (with_reducible refine Kd.C_drewN ?_ _) | (with_reducible refine Kd.C_drew ?_))); (case side2 => exact (Kd.R_reads' HO450.out).2.1); (case side3 => repeat (first | exact (Kd.R_reads' HO424.out).2.2 | (with_reducible refine Kd.C_alloc ?_ _) | (with_reducible refine Kd.C_drewN ?_ _) | (with_reducible refine Kd.C_drew ?_))); (case side4 => exact (Kd.R_reads' HO424.out).2.1); rintro e w64 ⟨rfl, hb⟩; refine ⟨_, rfl, ?_⟩; replace HO407 := Aside0.mk (Kd.R_below (by (with_reducible repeat (first|apply rA|apply rN|apply rD)); exact HO407.out) hb); replace HO410 := Aside0.mk (Kd.R_below (by (with_reducible repeat (first|apply rA|apply rN|apply rD)); exact HO410.out) hb); replace HO413 := Aside0.mk (Kd.R_below (by (with_reducible repeat (first|apply rA|apply rN|apply rD)); exact HO413.out) hb); replace HO418 := Aside0.mk (Kd.R_below (by (with_reducible repeat (first|apply rA|apply rN|apply rD)); exact HO418.out) hb); replace HO421 := Aside0.mk (Kd.R_below (by (with_reducible repeat (first|apply rA|apply rN|apply rD)); exact HO421.out) hb); replace HO424 := Aside0.mk (Kd.R_below (by (with_reducible repeat (first|apply rA|apply rN|apply rD)); exact HO424.out) hb); replace HO431 := Aside0.mk (Kd.R_below (by (with_reducible repeat (first|apply rA|apply rN|apply rD)); exact HO431.out) hb); replace HO434 := Aside0.mk (Kd.R_below (by (with_reducible repeat (first|apply rA|apply rN|apply rD)); exact HO434.out) hb); replace HO437 := Aside0.mk (Kd.R_below (by (with_reducible repeat (first|apply rA|apply rN|apply rD)); exact HO437.out) hb); replace HO443 := Aside0.mk (Kd.R_below (by (with_reducible repeat (first|apply rA|apply rN|apply rD)); exact HO443.out) hb); replace HO446 := Aside0.mk (Kd.R_below (by (with_reducible repeat (first|apply rA|apply rN|apply rD)); exact HO446.out) hb); replace HO450 := Aside0.mk (Kd.R_below (by (with_reducible repeat (first|apply rA|apply rN|apply rD)); exact HO450.out) hb); replace BK397 := Aside0.mk (blk_below (g := gb397) (by (with_reducible repeat (first | refine bN ?_ _|refine bD ?_|refine bA ?_ _)); exact BK397.out) hb); replace BK398 := Aside0.mk (blk_below (g := gb398) (by (with_reducible repeat (first | refine bN ?_ _|refine bD ?_|refine bA ?_ _)); exact BK398.out) hb); replace BK439 := Aside0.mk (blk_below (g := gb439) (by (with_reducible repeat (first | refine bN ?_ _|refine bD ?_|refine bA ?_ _)); exact BK439.out) hb); replace BK447 := Aside0.mk (blk_below (g := gb447) (by (with_reducible repeat (first | refine bN ?_ _|refine bD ?_|refine bA ?_ _)); exact BK447.out) hb); replace HB := Aside0.mk (below_step hB hb); replace HB2 : Hid (Below w43.heap.size w43 _) := below_step (by repeat (first|(with_reducible first|exact HB2.out|apply zA|apply zN|apply zD|refine below_set ?_ GF439.out|refine below_set ?_ GF447.out) | exact HB2.out)) hb; (try clear hb); (try clear hb2); (try clear hk); (try clear hi)))
      replace HO407 := Aside0.mk (Kd.R_drew HO407.out)
      replace HO410 := Aside0.mk (Kd.R_drew HO410.out)
      replace HO413 := Aside0.mk (Kd.R_drew HO413.out)
      replace HO418 := Aside0.mk (Kd.R_drew HO418.out)
      replace HO421 := Aside0.mk (Kd.R_drew HO421.out)
      replace HO424 := Aside0.mk (Kd.R_drew HO424.out)
      replace HO431 := Aside0.mk (Kd.R_drew HO431.out)
      replace HO434 := Aside0.mk (Kd.R_drew HO434.out)
      replace HO437 := Aside0.mk (Kd.R_drew HO437.out)
      replace HO443 := Aside0.mk (Kd.R_drew HO443.out)
      replace HO446 := Aside0.mk (Kd.R_drew HO446.out)
      replace HO450 := Aside0.mk (Kd.R_drew HO450.out)
      replace BK397 := Aside0.mk (blk_drew BK397.out)
      replace BK398 := Aside0.mk (blk_drew BK398.out)
      replace BK439 := Aside0.mk (blk_drew BK439.out)
      replace BK447 := Aside0.mk (blk_drew BK447.out)
      replace HB := Aside0.mk (below_drew1 HB.out); replace HB2 : Hid (Below w43.heap.size w43 _) := below_drew1 HB2.out
      refine start_ (n := 5) (S := fun w' => w'.cell? ⟨gb439, 0, none⟩ = some (.int .i64 t425) ∧ w'.cell? ⟨gb439, 1, none⟩ = some (.string t426) ∧ w'.cell? ⟨gb439, 2, none⟩ = some (.string t427) ∧ w'.cell? ⟨gb439, 3, none⟩ = some (.string t428) ∧ w'.cell? ⟨gb439, 4, none⟩ = some (.slice Ao48 t429.length co48) ∧ w'.cell? ⟨gb439, 5, none⟩ = some (.slice Ao49 t432.length co49) ∧ w'.cell? ⟨gb439, 6, none⟩ = some (.slice Ao50 t435.length co50) ∧ w'.cell? ⟨gb439, 7, none⟩ = some (.string t438) ∧ w'.cell? ⟨gb397, 0, none⟩ = some (.int .i64 a0_0) ∧ w'.cell? ⟨gb397, 1, none⟩ = some (.string a0_1) ∧ w'.cell? ⟨gb397, 2, none⟩ = some (.string a0_2) ∧ w'.cell? ⟨gb397, 3, none⟩ = some (.string a0_3) ∧ w'.cell? ⟨gb397, 4, none⟩ = some (.slice A0_4 l0_4.length c0_4) ∧ w'.cell? ⟨gb397, 5, none⟩ = some (.slice A0_5 l0_5.length c0_5) ∧ w'.cell? ⟨gb397, 6, none⟩ = some (.slice A0_6 l0_6.length c0_6) ∧ w'.cell? ⟨gb397, 7, none⟩ = some (.string a0_7)) (ds := []) #[false, false, false, false, false] (by kernel_rfl) rfl rfl ⟨(blk_cell BK439.out 0).trans rfl, (blk_cell BK439.out 1).trans rfl, (blk_cell BK439.out 2).trans rfl, (blk_cell BK439.out 3).trans rfl, (blk_cell BK439.out 4).trans rfl, (blk_cell BK439.out 5).trans rfl, (blk_cell BK439.out 6).trans rfl, (blk_cell BK439.out 7).trans rfl, (blk_cell BK397.out 0).trans rfl, (blk_cell BK397.out 1).trans rfl, (blk_cell BK397.out 2).trans rfl, (blk_cell BK397.out 3).trans rfl, (blk_cell BK397.out 4).trans rfl, (blk_cell BK397.out 5).trans rfl, (blk_cell BK397.out 6).trans rfl, (blk_cell BK397.out 7).trans rfl⟩ (fun hHeld => ?_)
      generalize w64.drew = w65 at HO407 HO410 HO413 HO418 HO421 HO424 HO431 HO434 HO437 HO443 HO446 HO450 BK397 BK398 BK439 BK447 HB HB2 hHeld ⊢
      refine take_ (i := 0) (N := some 40) (v := ?_) (a' := ?_) (tf 1 4) rfl rfl (by kernel_rfl) (fun _ _ _ h => h) (Or.inl ⟨by rfl, ?_⟩) hHeld ?_ ?_
      rotate_left
      ·rintro w' ⟨s0, s1, s2, s3, s4, s5, s6, s7, s8, s9, s10, s11, s12, s13, s14, s15⟩
       go_simp
       with_reducible rfl
      rotate_left
      ·simp only [Act.put, sT, sZ, sS, i64_w, i32_w]
       rfl
      refine take_ (i := 1) (N := some 41) (v := ?_) (a' := ?_) (tf 2 3) rfl rfl (by kernel_rfl) (fun _ _ _ h => h) (Or.inl ⟨by rfl, ?_⟩) hHeld ?_ ?_
      rotate_left
      ·rintro w' ⟨s0, s1, s2, s3, s4, s5, s6, s7, s8, s9, s10, s11, s12, s13, s14, s15⟩
       go_simp
       with_reducible rfl
      rotate_left
      ·simp only [Act.put, sT, sZ, sS, i64_w, i32_w]
       rfl
      refine one_ (i := 2) (N := some 42) (tf 3 2) rfl rfl (by kernel_rfl) (by decide) (fun K hK => ?_)
      refine goes_ Tryd.func7 (by kernel_rfl) rfl #[.agg #[.int .i64 a0_0, .string a0_1, .string a0_2, .string a0_3, .slice A0_4 l0_4.length c0_4, .slice A0_5 l0_5.length c0_5, .slice A0_6 l0_6.length c0_6, .string a0_7]] (by rfl) rfl rfl mA ?_
      with_reducible refine (laws_toNode.calls k a0_0 a0_1 a0_2 a0_3 _ _ l0_4 _ _ l0_5 _ _ l0_6 a0_7 t452 t453 t454 t455 t456 t459 t462 t465 _ ?side1 ?side2 ?side3 ?side4 ?side5 ?side6 A23.out).mono ?_
      (case side1 => repeat (first | exact (Kd.C_below HR0_4.out HB.out) | (with_reducible refine Kd.C_alloc ?_ _) | (with_reducible refine Kd.C_drewN ?_ _) | (with_reducible refine Kd.C_drew ?_)))
      (case side2 => exact HC0_4.out)
      (case side3 => repeat (first | exact (Kd.C_below HR0_5.out HB.out) | (with_reducible refine Kd.C_alloc ?_ _) | (with_reducible refine Kd.C_drewN ?_ _) | (with_reducible refine Kd.C_drew ?_)))
      (case side4 => exact HC0_5.out)
      (case side5 => repeat (first | exact (Kd.C_below HR0_6.out HB.out) | (with_reducible refine Kd.C_alloc ?_ _) | (with_reducible refine Kd.C_drewN ?_ _) | (with_reducible refine Kd.C_drew ?_)))
      (case side6 => exact HC0_6.out)
      rintro e w66 ⟨v457, v460, v463, rfl, ho0, ho1, ho2, hb⟩
      refine ⟨_, rfl, ?_⟩
      replace HO418 := Aside0.mk (Kd.R_below (by (with_reducible repeat (first|apply rA|apply rN|apply rD)); exact HO418.out) hb)
      replace HO421 := Aside0.mk (Kd.R_below (by (with_reducible repeat (first|apply rA|apply rN|apply rD)); exact HO421.out) hb)
      replace HO443 := Aside0.mk (Kd.R_below (by (with_reducible repeat (first|apply rA|apply rN|apply rD)); exact HO443.out) hb)
      replace HO446 := Aside0.mk (Kd.R_below (by (with_reducible repeat (first|apply rA|apply rN|apply rD)); exact HO446.out) hb)
      have HO458 := Aside0.mk (Kd.R_lower (Kd.R_new' (Kd.R_new' ho0 (Kd.R_lt (by (with_reducible repeat (first|apply rA|apply rN|apply rD)); exact HO407.out))) (Kd.R_lt (by (with_reducible repeat (first|apply rA|apply rN|apply rD)); exact HO431.out))) (below_size hB))
      have HO461 := Aside0.mk (Kd.R_lower (Kd.R_new' (Kd.R_new' (Kd.R_new' (Kd.R_new' ho1 (Kd.R_lt (by (with_reducible repeat (first|apply rA|apply rN|apply rD)); exact HO410.out))) (Kd.R_lt (by (with_reducible repeat (first|apply rA|apply rN|apply rD)); exact HO424.out))) (Kd.R_lt (by (with_reducible repeat (first|apply rA|apply rN|apply rD)); exact HO434.out))) (Kd.R_lt (by (with_reducible repeat (first|apply rA|apply rN|apply rD)); exact HO450.out))) (below_size hB))
      have HO464 := Aside0.mk (Kd.R_lower (Kd.R_newB (Kd.R_new' (Kd.R_new' (Kd.R_new' (Kd.R_new' (Kd.R_new' (Kd.R_new' (Kd.R_new' (Kd.R_new' ho2 (Kd.R_lt (by (with_reducible repeat (first|apply rA|apply rN|apply rD)); exact HO407.out))) (Kd.R_lt (by (with_reducible repeat (first|apply rA|apply rN|apply rD)); exact HO410.out))) (Kd.R_lt (by (with_reducible repeat (first|apply rA|apply rN|apply rD)); exact HO413.out))) (Kd.R_lt (by (with_reducible repeat (first|apply rA|apply rN|apply rD)); exact HO424.out))) (Kd.R_lt (by (with_reducible repeat (first|apply rA|apply rN|apply rD)); exact HO431.out))) (Kd.R_lt (by (with_reducible repeat (first|apply rA|apply rN|apply rD)); exact HO434.out))) (Kd.R_lt (by (with_reducible repeat (first|apply rA|apply rN|apply rD)); exact HO437.out))) (Kd.R_lt (by (with_reducible repeat (first|apply rA|apply rN|apply rD)); exact HO450.out))) (g := gb439) (by (with_reducible repeat (first | refine bN ?_ _|refine bD ?_|refine bA ?_ _)); exact BK439.out)) (below_size hB))
      replace HO407 := Aside0.mk (Kd.R_elder' (by (with_reducible repeat (first|apply rA|apply rN|apply rD)); exact HO407.out) (Kd.R_base ho0) hb)
      replace HO410 := Aside0.mk (Kd.R_elder' (by (with_reducible repeat (first|apply rA|apply rN|apply rD)); exact HO410.out) (Kd.R_base ho1) hb)
      replace HO413 := Aside0.mk (Kd.R_mono (Kd.R_told (Kd.R_told (Kd.R_told (Kd.R_old (by (with_reducible repeat (first|apply rA|apply rN|apply rD)); exact HO413.out) hb) (Kd.R_base ho0)) (Kd.R_base ho1)) (Kd.R_base ho2)) (fun _ h_ => h_.1))
      replace HO424 := Aside0.mk (Kd.R_elder' (by (with_reducible repeat (first|apply rA|apply rN|apply rD)); exact HO424.out) (Kd.R_base ho1) hb)
      replace HO431 := Aside0.mk (Kd.R_elder' (by (with_reducible repeat (first|apply rA|apply rN|apply rD)); exact HO431.out) (Kd.R_base ho0) hb)
      replace HO434 := Aside0.mk (Kd.R_elder' (by (with_reducible repeat (first|apply rA|apply rN|apply rD)); exact HO434.out) (Kd.R_base ho1) hb)
      replace HO437 := Aside0.mk (Kd.R_mono (Kd.R_told (Kd.R_told (Kd.R_told (Kd.R_old (by (with_reducible repeat (first|apply rA|apply rN|apply rD)); exact HO437.out) hb) (Kd.R_base ho0)) (Kd.R_base ho1)) (Kd.R_base ho2)) (fun _ h_ => h_.1))
      replace HO450 := Aside0.mk (Kd.R_elder' (by (with_reducible repeat (first|apply rA|apply rN|apply rD)); exact HO450.out) (Kd.R_base ho1) hb)
      replace BK397 := Aside0.mk (blk_below (g := gb397) (by (with_reducible repeat (first | refine bN ?_ _|refine bD ?_|refine bA ?_ _)); exact BK397.out) hb)
      replace BK398 := Aside0.mk (blk_below (g := gb398) (by (with_reducible repeat (first | refine bN ?_ _|refine bD ?_|refine bA ?_ _)); exact BK398.out) hb)
      replace BK439 := Aside0.mk (blk_below (g := gb439) (by (with_reducible repeat (first | refine bN ?_ _|refine bD ?_|refine bA ?_ _)); exact BK439.out) hb)
      replace BK447 := Aside0.mk (blk_below (g := gb447) (by (with_reducible repeat (first | refine bN ?_ _|refine bD ?_|refine bA ?_ _)); exact BK447.out) hb)
      replace HB := Aside0.mk (below_step hB hb); replace HB2 : Hid (Below w43.heap.size w43 _) := below_step (by repeat (first|(with_reducible first|exact HB2.out|apply zA|apply zN|apply zD|refine below_set ?_ GF439.out|refine below_set ?_ GF447.out) | exact HB2.out)) hb
      (try clear hb)
      (try clear hb2)
      (try clear hk)
      (try clear hi)
      (try clear ho0)
      (try clear ho1)
      (try clear ho2)
      obtain ⟨Ao67, co67, eo67⟩ := Kd.R_slice HO458.out
      (first | subst eo67 | (injection eo67 with f1_ f2_ f3_; have f4_ := f1_.symm; have f5_ := f3_.symm; clear f1_ f2_ f3_; subst f4_; subst f5_))
      obtain ⟨Ao68, co68, eo68⟩ := Kd.R_slice HO461.out
      (first | subst eo68 | (injection eo68 with f1_ f2_ f3_; have f4_ := f1_.symm; have f5_ := f3_.symm; clear f1_ f2_ f3_; subst f4_; subst f5_))
      obtain ⟨Ao69, co69, eo69⟩ := Kd.R_slice HO464.out
      (first | subst eo69 | (injection eo69 with f1_ f2_ f3_; have f4_ := f1_.symm; have f5_ := f3_.symm; clear f1_ f2_ f3_; subst f4_; subst f5_))
      refine hK.out _ _ ⟨(blk_cell BK439.out 0).trans rfl, (blk_cell BK439.out 1).trans rfl, (blk_cell BK439.out 2).trans rfl, (blk_cell BK439.out 3).trans rfl, (blk_cell BK439.out 4).trans rfl, (blk_cell BK439.out 5).trans rfl, (blk_cell BK439.out 6).trans rfl, (blk_cell BK439.out 7).trans rfl, (blk_cell BK397.out 0).trans rfl, (blk_cell BK397.out 1).trans rfl, (blk_cell BK397.out 2).trans rfl, (blk_cell BK397.out 3).trans rfl, (blk_cell BK397.out 4).trans rfl, (blk_cell BK397.out 5).trans rfl, (blk_cell BK397.out 6).trans rfl, (blk_cell BK397.out 7).trans rfl⟩ (fun hHeld => ?_)
      clear hK K
      refine norm_ (a' := ?_) ?_ ?_
      rotate_left
      ·show Act.put _ (some 42) _ = _
       simp only [Act.put, sT, sZ, sS, i64_w, i32_w]
       rfl
      refine one_ (i := 3) (N := some 43) (tf 4 1) rfl rfl (by kernel_rfl) (by decide) (fun K hK => ?_)
      refine goes_ Tryd.func11 (by kernel_rfl) rfl #[.agg #[.int .i64 t425, .string t426, .string t427, .string t428, .slice Ao48 t429.length co48, .slice Ao49 t432.length co49, .slice Ao50 t435.length co50, .string t438], .agg #[.int .i64 t452, .string t453, .string t454, .string t455, .slice Ao67 t456.length co67, .slice Ao68 t459.length co68, .slice Ao69 t462.length co69, .string t465]] (by rfl) rfl rfl mA ?_
      with_reducible refine (laws_eqNode.calls k t425 t426 t427 t428 _ _ t429 _ _ t432 _ _ t435 t438 t452 t453 t454 t455 _ _ t456 _ _ t459 _ _ t462 t465 true _ ?side1 ?side2 ?side3 ?side4 ?side5 ?side6 ?side7 ?side8 ?side9 ?side10 ?side11 ?side12 A24.out).mono ?_
      (case side1 => repeat (first | exact (Kd.R_reads' HO431.out).2.2 | (with_reducible refine Kd.C_alloc ?_ _) | (with_reducible refine Kd.C_drewN ?_ _) | (with_reducible refine Kd.C_drew ?_)))
      (case side2 => exact (Kd.R_reads' HO431.out).2.1)
      (case side3 => repeat (first | exact (Kd.R_reads' HO434.out).2.2 | (with_reducible refine Kd.C_alloc ?_ _) | (with_reducible refine Kd.C_drewN ?_ _) | (with_reducible refine Kd.C_drew ?_)))
      (case side4 => exact (Kd.R_reads' HO434.out).2.1)
      (case side5 => repeat (first | exact (Kd.R_reads' HO437.out).2.2 | (with_reducible refine Kd.C_alloc ?_ _) | (with_reducible refine Kd.C_drewN ?_ _) | (with_reducible refine Kd.C_drew ?_)))
      (case side6 => exact (Kd.R_reads' HO437.out).2.1)
      (case side7 => repeat (first | exact (Kd.R_reads' HO458.out).2.2 | (with_reducible refine Kd.C_alloc ?_ _) | (with_reducible refine Kd.C_drewN ?_ _) | (with_reducible refine Kd.C_drew ?_)))
      (case side8 => exact (Kd.R_reads' HO458.out).2.1)
      (case side9 => repeat (first | exact (Kd.R_reads' HO461.out).2.2 | (with_reducible refine Kd.C_alloc ?_ _) | (with_reducible refine Kd.C_drewN ?_ _) | (with_reducible refine Kd.C_drew ?_)))
      (case side10 => exact (Kd.R_reads' HO461.out).2.1)
      (case side11 => repeat (first | exact (Kd.R_reads' HO464.out).2.2 | (with_reducible refine Kd.C_alloc ?_ _) | (with_reducible refine Kd.C_drewN ?_ _) | (with_reducible refine Kd.C_drew ?_)))
      (case side12 => exact (Kd.R_reads' HO464.out).2.1)
      rintro e w70 ⟨rfl, hb⟩
      refine ⟨_, rfl, ?_⟩
      replace HO407 := Aside0.mk (Kd.R_below (by (with_reducible repeat (first|apply rA|apply rN|apply rD)); exact HO407.out) hb)
      replace HO410 := Aside0.mk (Kd.R_below (by (with_reducible repeat (first|apply rA|apply rN|apply rD)); exact HO410.out) hb)
      replace HO413 := Aside0.mk (Kd.R_below (by (with_reducible repeat (first|apply rA|apply rN|apply rD)); exact HO413.out) hb)
      replace HO418 := Aside0.mk (Kd.R_below (by (with_reducible repeat (first|apply rA|apply rN|apply rD)); exact HO418.out) hb)
      replace HO421 := Aside0.mk (Kd.R_below (by (with_reducible repeat (first|apply rA|apply rN|apply rD)); exact HO421.out) hb)
      replace HO424 := Aside0.mk (Kd.R_below (by (with_reducible repeat (first|apply rA|apply rN|apply rD)); exact HO424.out) hb)
      replace HO431 := Aside0.mk (Kd.R_below (by (with_reducible repeat (first|apply rA|apply rN|apply rD)); exact HO431.out) hb)
      replace HO434 := Aside0.mk (Kd.R_below (by (with_reducible repeat (first|apply rA|apply rN|apply rD)); exact HO434.out) hb)
      replace HO437 := Aside0.mk (Kd.R_below (by (with_reducible repeat (first|apply rA|apply rN|apply rD)); exact HO437.out) hb)
      replace HO443 := Aside0.mk (Kd.R_below (by (with_reducible repeat (first|apply rA|apply rN|apply rD)); exact HO443.out) hb)
      replace HO446 := Aside0.mk (Kd.R_below (by (with_reducible repeat (first|apply rA|apply rN|apply rD)); exact HO446.out) hb)
      replace HO450 := Aside0.mk (Kd.R_below (by (with_reducible repeat (first|apply rA|apply rN|apply rD)); exact HO450.out) hb)
      replace HO458 := Aside0.mk (Kd.R_below (by (with_reducible repeat (first|apply rA|apply rN|apply rD)); exact HO458.out) hb)
      replace HO461 := Aside0.mk (Kd.R_below (by (with_reducible repeat (first|apply rA|apply rN|apply rD)); exact HO461.out) hb)
      replace HO464 := Aside0.mk (Kd.R_below (by (with_reducible repeat (first|apply rA|apply rN|apply rD)); exact HO464.out) hb)
      replace BK397 := Aside0.mk (blk_below (g := gb397) (by (with_reducible repeat (first | refine bN ?_ _|refine bD ?_|refine bA ?_ _)); exact BK397.out) hb)
      replace BK398 := Aside0.mk (blk_below (g := gb398) (by (with_reducible repeat (first | refine bN ?_ _|refine bD ?_|refine bA ?_ _)); exact BK398.out) hb)
      replace BK439 := Aside0.mk (blk_below (g := gb439) (by (with_reducible repeat (first | refine bN ?_ _|refine bD ?_|refine bA ?_ _)); exact BK439.out) hb)
      replace BK447 := Aside0.mk (blk_below (g := gb447) (by (with_reducible repeat (first | refine bN ?_ _|refine bD ?_|refine bA ?_ _)); exact BK447.out) hb)
      replace HB := Aside0.mk (below_step hB hb); replace HB2 : Hid (Below w43.heap.size w43 _) := below_step (by repeat (first|(with_reducible first|exact HB2.out|apply zA|apply zN|apply zD|refine below_set ?_ GF439.out|refine below_set ?_ GF447.out) | exact HB2.out)) hb
      (try clear hb)
      (try clear hb2)
      (try clear hk)
      (try clear hi)
      refine hK.out _ _ ⟨(blk_cell BK439.out 0).trans rfl, (blk_cell BK439.out 1).trans rfl, (blk_cell BK439.out 2).trans rfl, (blk_cell BK439.out 3).trans rfl, (blk_cell BK439.out 4).trans rfl, (blk_cell BK439.out 5).trans rfl, (blk_cell BK439.out 6).trans rfl, (blk_cell BK439.out 7).trans rfl, (blk_cell BK397.out 0).trans rfl, (blk_cell BK397.out 1).trans rfl, (blk_cell BK397.out 2).trans rfl, (blk_cell BK397.out 3).trans rfl, (blk_cell BK397.out 4).trans rfl, (blk_cell BK397.out 5).trans rfl, (blk_cell BK397.out 6).trans rfl, (blk_cell BK397.out 7).trans rfl⟩ (fun hHeld => ?_)
      clear hK K
      refine norm_ (a' := ?_) ?_ ?_
      rotate_left
      ·show Act.put _ (some 43) _ = _
       simp only [Act.put, sT, sZ, sS, i64_w, i32_w]
       rfl
      refine pure_ (i := 4) (N := some 44) (v := ?_) (a' := ?_) (tf 5 0) rfl rfl (by kernel_rfl) (fun _ _ _ h => h) (Or.inl ⟨by rfl, ?_⟩) ?_ ?_
      rotate_left; ·intro w'; go_simp; with_reducible rfl
      rotate_left; ·simp only [Act.put, sT, sZ, sS, i64_w, i32_w]; rfl
      refine done_ (by kernel_rfl) ?_
      try go_wp2
      replace HO407 := Aside0.mk (Kd.R_drew HO407.out)
      replace HO410 := Aside0.mk (Kd.R_drew HO410.out)
      replace HO413 := Aside0.mk (Kd.R_drew HO413.out)
      replace HO418 := Aside0.mk (Kd.R_drew HO418.out)
      replace HO421 := Aside0.mk (Kd.R_drew HO421.out)
      replace HO424 := Aside0.mk (Kd.R_drew HO424.out)
      replace HO431 := Aside0.mk (Kd.R_drew HO431.out)
      replace HO434 := Aside0.mk (Kd.R_drew HO434.out)
      replace HO437 := Aside0.mk (Kd.R_drew HO437.out)
      replace HO443 := Aside0.mk (Kd.R_drew HO443.out)
      replace HO446 := Aside0.mk (Kd.R_drew HO446.out)
      replace HO450 := Aside0.mk (Kd.R_drew HO450.out)
      replace HO458 := Aside0.mk (Kd.R_drew HO458.out)
      replace HO461 := Aside0.mk (Kd.R_drew HO461.out)
      replace HO464 := Aside0.mk (Kd.R_drew HO464.out)
      replace BK397 := Aside0.mk (blk_drew BK397.out)
      replace BK398 := Aside0.mk (blk_drew BK398.out)
      replace BK439 := Aside0.mk (blk_drew BK439.out)
      replace BK447 := Aside0.mk (blk_drew BK447.out)
      replace HB := Aside0.mk (below_drew1 HB.out); replace HB2 : Hid (Below w43.heap.size w43 _) := below_drew1 HB2.out
      refine start_ (n := 5) (S := fun w' => w'.cell? ⟨gb447, 0, none⟩ = some (.string t440) ∧ w'.cell? ⟨gb447, 1, none⟩ = some (.slice Ao58 t441.length co58) ∧ w'.cell? ⟨gb447, 2, none⟩ = some (.slice Ao59 t444.length co59) ∧ w'.cell? ⟨gb398, 0, none⟩ = some (.string a1_0) ∧ w'.cell? ⟨gb398, 1, none⟩ = some (.slice A1_1 l1_1.length c1_1) ∧ w'.cell? ⟨gb398, 2, none⟩ = some (.slice A1_2 l1_2.length c1_2)) (ds := []) #[false, false, false, false, false] (by kernel_rfl) rfl rfl ⟨(blk_cell BK447.out 0).trans rfl, (blk_cell BK447.out 1).trans rfl, (blk_cell BK447.out 2).trans rfl, (blk_cell BK398.out 0).trans rfl, (blk_cell BK398.out 1).trans rfl, (blk_cell BK398.out 2).trans rfl⟩ (fun hHeld => ?_)
      generalize w70.drew = w71 at HO407 HO410 HO413 HO418 HO421 HO424 HO431 HO434 HO437 HO443 HO446 HO450 HO458 HO461 HO464 BK397 BK398 BK439 BK447 HB HB2 hHeld ⊢
      refine take_ (i := 0) (N := some 45) (v := ?_) (a' := ?_) (tf 1 4) rfl rfl (by kernel_rfl) (fun _ _ _ h => h) (Or.inl ⟨by rfl, ?_⟩) hHeld ?_ ?_
      rotate_left
      ·rintro w' ⟨s0, s1, s2, s3, s4, s5⟩
       go_simp
       with_reducible rfl
      rotate_left
      ·simp only [Act.put, sT, sZ, sS, i64_w, i32_w]
       rfl
      refine take_ (i := 1) (N := some 46) (v := ?_) (a' := ?_) (tf 2 3) rfl rfl (by kernel_rfl) (fun _ _ _ h => h) (Or.inl ⟨by rfl, ?_⟩) hHeld ?_ ?_
      rotate_left
      ·rintro w' ⟨s0, s1, s2, s3, s4, s5⟩
       go_simp
       with_reducible rfl
      rotate_left
      ·simp only [Act.put, sT, sZ, sS, i64_w, i32_w]
       rfl
      refine one_ (i := 2) (N := some 47) (tf 3 2) rfl rfl (by kernel_rfl) (by decide) (fun K hK => ?_)
      refine goes_ Tryd.func8 (by kernel_rfl) rfl #[.agg #[.string a1_0, .slice A1_1 l1_1.length c1_1, .slice A1_2 l1_2.length c1_2]] (by rfl) rfl rfl mA ?_
      with_reducible refine (laws_toHead.calls k a1_0 _ _ l1_1 _ _ l1_2 t467 t468 t471 _ ?side1 ?side2 ?side3 ?side4 A26.out).mono ?_
      (case side1 => repeat (first | exact (Kd.C_below HR1_1.out HB.out) | (with_reducible refine Kd.C_alloc ?_ _) | (with_reducible refine Kd.C_drewN ?_ _) | (with_reducible refine Kd.C_drew ?_)))
      (case side2 => exact HC1_1.out)
      (case side3 => repeat (first | exact (Kd.C_below HR1_2.out HB.out) | (with_reducible refine Kd.C_alloc ?_ _) | (with_reducible refine Kd.C_drewN ?_ _) | (with_reducible refine Kd.C_drew ?_)))
      (case side4 => exact HC1_2.out)
      rintro e w72 ⟨v469, v472, rfl, ho0, ho1, hb⟩
      refine ⟨_, rfl, ?_⟩
      replace HO407 := Aside0.mk (Kd.R_below (by (with_reducible repeat (first|apply rA|apply rN|apply rD)); exact HO407.out) hb)
      replace HO410 := Aside0.mk (Kd.R_below (by (with_reducible repeat (first|apply rA|apply rN|apply rD)); exact HO410.out) hb)
      replace HO413 := Aside0.mk (Kd.R_below (by (with_reducible repeat (first|apply rA|apply rN|apply rD)); exact HO413.out) hb)
      replace HO424 := Aside0.mk (Kd.R_below (by (with_reducible repeat (first|apply rA|apply rN|apply rD)); exact HO424.out) hb)
      replace HO431 := Aside0.mk (Kd.R_below (by (with_reducible repeat (first|apply rA|apply rN|apply rD)); exact HO431.out) hb)
      replace HO434 := Aside0.mk (Kd.R_below (by (with_reducible repeat (first|apply rA|apply rN|apply rD)); exact HO434.out) hb)
      replace HO437 := Aside0.mk (Kd.R_below (by (with_reducible repeat (first|apply rA|apply rN|apply rD)); exact HO437.out) hb)
      replace HO450 := Aside0.mk (Kd.R_below (by (with_reducible repeat (first|apply rA|apply rN|apply rD)); exact HO450.out) hb)
      replace HO458 := Aside0.mk (Kd.R_below (by (with_reducible repeat (first|apply rA|apply rN|apply rD)); exact HO458.out) hb)
      replace HO461 := Aside0.mk (Kd.R_below (by (with_reducible repeat (first|apply rA|apply rN|apply rD)); exact HO461.out) hb)
      replace HO464 := Aside0.mk (Kd.R_below (by (with_reducible repeat (first|apply rA|apply rN|apply rD)); exact HO464.out) hb)
      have HO470 := Aside0.mk (Kd.R_lower (Kd.R_new' (Kd.R_new' ho0 (Kd.R_lt (by (with_reducible repeat (first|apply rA|apply rN|apply rD)); exact HO418.out))) (Kd.R_lt (by (with_reducible repeat (first|apply rA|apply rN|apply rD)); exact HO443.out))) (below_size hB))
      replace HO418 := Aside0.mk (Kd.R_elder' (by (with_reducible repeat (first|apply rA|apply rN|apply rD)); exact HO418.out) (Kd.R_base ho0) hb)
      replace HO443 := Aside0.mk (Kd.R_elder' (by (with_reducible repeat (first|apply rA|apply rN|apply rD)); exact HO443.out) (Kd.R_base ho0) hb)
      have HO473 := Aside0.mk (Kd.R_lower (Kd.R_new' (Kd.R_new' ho1 (Kd.R_lt (by (with_reducible repeat (first|apply rA|apply rN|apply rD)); exact HO421.out))) (Kd.R_lt (by (with_reducible repeat (first|apply rA|apply rN|apply rD)); exact HO446.out))) (below_size hB))
      replace HO421 := Aside0.mk (Kd.R_elder' (by (with_reducible repeat (first|apply rA|apply rN|apply rD)); exact HO421.out) (Kd.R_base ho1) hb)
      replace HO446 := Aside0.mk (Kd.R_elder' (by (with_reducible repeat (first|apply rA|apply rN|apply rD)); exact HO446.out) (Kd.R_base ho1) hb)
      replace BK397 := Aside0.mk (blk_below (g := gb397) (by (with_reducible repeat (first | refine bN ?_ _|refine bD ?_|refine bA ?_ _)); exact BK397.out) hb)
      replace BK398 := Aside0.mk (blk_below (g := gb398) (by (with_reducible repeat (first | refine bN ?_ _|refine bD ?_|refine bA ?_ _)); exact BK398.out) hb)
      replace BK439 := Aside0.mk (blk_below (g := gb439) (by (with_reducible repeat (first | refine bN ?_ _|refine bD ?_|refine bA ?_ _)); exact BK439.out) hb)
      replace BK447 := Aside0.mk (blk_below (g := gb447) (by (with_reducible repeat (first | refine bN ?_ _|refine bD ?_|refine bA ?_ _)); exact BK447.out) hb)
      replace HB := Aside0.mk (below_step hB hb); replace HB2 : Hid (Below w43.heap.size w43 _) := below_step (by repeat (first|(with_reducible first|exact HB2.out|apply zA|apply zN|apply zD|refine below_set ?_ GF439.out|refine below_set ?_ GF447.out) | exact HB2.out)) hb
      (try clear hb)
      (try clear hb2)
      (try clear hk)
      (try clear hi)
      (try clear ho0)
      (try clear ho1)
      obtain ⟨Ao73, co73, eo73⟩ := Kd.R_slice HO470.out
      (first | subst eo73 | (injection eo73 with f1_ f2_ f3_; have f4_ := f1_.symm; have f5_ := f3_.symm; clear f1_ f2_ f3_; subst f4_; subst f5_))
      obtain ⟨Ao74, co74, eo74⟩ := Kd.R_slice HO473.out
      (first | subst eo74 | (injection eo74 with f1_ f2_ f3_; have f4_ := f1_.symm; have f5_ := f3_.symm; clear f1_ f2_ f3_; subst f4_; subst f5_))
      refine hK.out _ _ ⟨(blk_cell BK447.out 0).trans rfl, (blk_cell BK447.out 1).trans rfl, (blk_cell BK447.out 2).trans rfl, (blk_cell BK398.out 0).trans rfl, (blk_cell BK398.out 1).trans rfl, (blk_cell BK398.out 2).trans rfl⟩ (fun hHeld => ?_)
      clear hK K
      refine norm_ (a' := ?_) ?_ ?_
      rotate_left
      ·show Act.put _ (some 47) _ = _
       simp only [Act.put, sT, sZ, sS, i64_w, i32_w]
       rfl
      refine one_ (i := 3) (N := some 48) (tf 4 1) rfl rfl (by kernel_rfl) (by decide) (fun K hK => ?_)
      refine goes_ Tryd.func12 (by kernel_rfl) rfl #[.agg #[.string t440, .slice Ao58 t441.length co58, .slice Ao59 t444.length co59], .agg #[.string t467, .slice Ao73 t468.length co73, .slice Ao74 t471.length co74]] (by rfl) rfl rfl mA ?_
      with_reducible refine (laws_eqHead.calls k t440 _ _ t441 _ _ t444 t467 _ _ t468 _ _ t471 true _ ?side1 ?side2 ?side3 ?side4 ?side5 ?side6 ?side7 ?side8 A27.out).mono ?_
      (case side1 => repeat (first | exact (Kd.R_reads' HO443.out).2.2 | (with_reducible refine Kd.C_alloc ?_ _) | (with_reducible refine Kd.C_drewN ?_ _) | (with_reducible refine Kd.C_drew ?_)))
      (case side2 => exact (Kd.R_reads' HO443.out).2.1)
      (case side3 => repeat (first | exact (Kd.R_reads' HO446.out).2.2 | (with_reducible refine Kd.C_alloc ?_ _) | (with_reducible refine Kd.C_drewN ?_ _) | (with_reducible refine Kd.C_drew ?_)))
      (case side4 => exact (Kd.R_reads' HO446.out).2.1)
      (case side5 => repeat (first | exact (Kd.R_reads' HO470.out).2.2 | (with_reducible refine Kd.C_alloc ?_ _) | (with_reducible refine Kd.C_drewN ?_ _) | (with_reducible refine Kd.C_drew ?_)))
      (case side6 => exact (Kd.R_reads' HO470.out).2.1)
      (case side7 => repeat (first | exact (Kd.R_reads' HO473.out).2.2 | (with_reducible refine Kd.C_alloc ?_ _) | (with_reducible refine Kd.C_drewN ?_ _) | (with_reducible refine Kd.C_drew ?_)))
      (case side8 => exact (Kd.R_reads' HO473.out).2.1)
      rintro e w75 ⟨rfl, hb⟩
      refine ⟨_, rfl, ?_⟩
      replace HO407 := Aside0.mk (Kd.R_below (by (with_reducible repeat (first|apply rA|apply rN|apply rD)); exact HO407.out) hb)
      replace HO410 := Aside0.mk (Kd.R_below (by (with_reducible repeat (first|apply rA|apply rN|apply rD)); exact HO410.out) hb)
      replace HO413 := Aside0.mk (Kd.R_below (by (with_reducible repeat (first|apply rA|apply rN|apply rD)); exact HO413.out) hb)
      replace HO418 := Aside0.mk (Kd.R_below (by (with_reducible repeat (first|apply rA|apply rN|apply rD)); exact HO418.out) hb)
      replace HO421 := Aside0.mk (Kd.R_below (by (with_reducible repeat (first|apply rA|apply rN|apply rD)); exact HO421.out) hb)
      replace HO424 := Aside0.mk (Kd.R_below (by (with_reducible repeat (first|apply rA|apply rN|apply rD)); exact HO424.out) hb)
      replace HO431 := Aside0.mk (Kd.R_below (by (with_reducible repeat (first|apply rA|apply rN|apply rD)); exact HO431.out) hb)
      replace HO434 := Aside0.mk (Kd.R_below (by (with_reducible repeat (first|apply rA|apply rN|apply rD)); exact HO434.out) hb)
      replace HO437 := Aside0.mk (Kd.R_below (by (with_reducible repeat (first|apply rA|apply rN|apply rD)); exact HO437.out) hb)
      replace HO443 := Aside0.mk (Kd.R_below (by (with_reducible repeat (first|apply rA|apply rN|apply rD)); exact HO443.out) hb)
      replace HO446 := Aside0.mk (Kd.R_below (by (with_reducible repeat (first|apply rA|apply rN|apply rD)); exact HO446.out) hb)
      replace HO450 := Aside0.mk (Kd.R_below (by (with_reducible repeat (first|apply rA|apply rN|apply rD)); exact HO450.out) hb)
      replace HO458 := Aside0.mk (Kd.R_below (by (with_reducible repeat (first|apply rA|apply rN|apply rD)); exact HO458.out) hb)
      replace HO461 := Aside0.mk (Kd.R_below (by (with_reducible repeat (first|apply rA|apply rN|apply rD)); exact HO461.out) hb)
      replace HO464 := Aside0.mk (Kd.R_below (by (with_reducible repeat (first|apply rA|apply rN|apply rD)); exact HO464.out) hb)
      replace HO470 := Aside0.mk (Kd.R_below (by (with_reducible repeat (first|apply rA|apply rN|apply rD)); exact HO470.out) hb)
      replace HO473 := Aside0.mk (Kd.R_below (by (with_reducible repeat (first|apply rA|apply rN|apply rD)); exact HO473.out) hb)
      replace BK397 := Aside0.mk (blk_below (g := gb397) (by (with_reducible repeat (first | refine bN ?_ _|refine bD ?_|refine bA ?_ _)); exact BK397.out) hb)
      replace BK398 := Aside0.mk (blk_below (g := gb398) (by (with_reducible repeat (first | refine bN ?_ _|refine bD ?_|refine bA ?_ _)); exact BK398.out) hb)
      replace BK439 := Aside0.mk (blk_below (g := gb439) (by (with_reducible repeat (first | refine bN ?_ _|refine bD ?_|refine bA ?_ _)); exact BK439.out) hb)
      replace BK447 := Aside0.mk (blk_below (g := gb447) (by (with_reducible repeat (first | refine bN ?_ _|refine bD ?_|refine bA ?_ _)); exact BK447.out) hb)
      replace HB := Aside0.mk (below_step hB hb); replace HB2 : Hid (Below w43.heap.size w43 _) := below_step (by repeat (first|(with_reducible first|exact HB2.out|apply zA|apply zN|apply zD|refine below_set ?_ GF439.out|refine below_set ?_ GF447.out) | exact HB2.out)) hb
      (try clear hb)
      (try clear hb2)
      (try clear hk)
      (try clear hi)
      refine hK.out _ _ ⟨(blk_cell BK447.out 0).trans rfl, (blk_cell BK447.out 1).trans rfl, (blk_cell BK447.out 2).trans rfl, (blk_cell BK398.out 0).trans rfl, (blk_cell BK398.out 1).trans rfl, (blk_cell BK398.out 2).trans rfl⟩ (fun hHeld => ?_)
      clear hK K
      refine norm_ (a' := ?_) ?_ ?_
      rotate_left
      ·show Act.put _ (some 48) _ = _
       simp only [Act.put, sT, sZ, sS, i64_w, i32_w]
       rfl
      refine pure_ (i := 4) (N := some 49) (v := ?_) (a' := ?_) (tf 5 0) rfl rfl (by kernel_rfl) (fun _ _ _ h => h) (Or.inl ⟨by rfl, ?_⟩) ?_ ?_
      rotate_left; ·intro w'; go_simp; with_reducible rfl
      rotate_left; ·simp only [Act.put, sT, sZ, sS, i64_w, i32_w]; rfl
      refine done_ (by kernel_rfl) ?_
      obtain ⟨hcz76_0, hcz76_1, hcz76_2, hcz76_3, hcz76_4, hcz76_5, hcz76_6, hcz76_7⟩ := bc8 BK439.out
      obtain ⟨hfz76_0, hfz76_1, hfz76_2, hfz76_3, hfz76_4, hfz76_5, hfz76_6, hfz76_7⟩ := bf8 BK439.out
      obtain ⟨⟨rM_, mX_⟩, hM_, eM_⟩ := Option.map_eq_some_iff.1 A29.out
      have HM_ := Aside0.mk (show laws_markNode.g k ⟨t425, t426, t427, t428, t429, t432, t435, t438⟩ 1 = some (t475, mX_) by rw [hM_]; exact congrArg (fun z_ => some (z_, mX_)) eM_)
      clear hM_ eM_
      go_upto_region 21 with (first | ((with_reducible refine gate_callee (f := 13) rfl ?_); refine goesL_ (some 52) rfl rfl Tryd.func13 (by kernel_rfl) rfl #[.agg #[.int .i64 t425, .string t426, .string t427, .string t428, .slice Ao48 t429.length co48, .slice Ao49 t432.length co49, .slice Ao50 t435.length co50, .string t438], .int .i64 1] rfl mA ?_; (with_reducible refine (laws_markNode.calls8 k (fun k_ => N1_ ≤ k_ ∧ k_ < w43.heap.size) t425 t426 t427 t428 t429 t432 t435 t438 (.slice Ao48 t429.length co48) (.slice Ao49 t432.length co49) (.slice Ao50 t435.length co50) (fun k_ => (some k_ ≠ (.slice Ao48 t429.length co48 : Value).ownBlock ∧ some k_ ≠ (.slice Ao49 t432.length co49 : Value).ownBlock) ∧ N1_ ≤ k_ ∧ k_ < w43.heap.size) 1 t475 mX_ w _ ?side1 ?side2 HM_.out).mono ?_); (case side1 => exact hB); (case side2 => exact DN_later (x := ⟨t425, t426, t427, t428, t429, t432, t435, t438⟩) HX.out.1 HX.out.2.1 HX.out.2.2.1 HX.out.2.2.2 (by repeat (first|(with_reducible first|exact HB2.out|apply zA|apply zN|apply zD|refine below_set ?_ GF439.out|refine below_set ?_ GF447.out) | exact HB2.out))); rintro e w77 ⟨rfl, hD, hb, hkp⟩; refine ⟨_, rfl, ?_⟩; have hkq := Kept.mono (S' := fun k_ => N1_ ≤ k_ ∧ k_ < w43.heap.size) hkp (fun k_ h_ => h_.elim (hD.2.2.2.1 k_) (fun h_ => h_.elim (hD.2.2.2.2.1 k_) (fun h_ => h_.2))); replace HO424 := Aside0.mk (R_keptOwn (by (with_reducible repeat (first|apply rA|apply rN|apply rD)); exact HO424.out) rfl hkq (fun k_ e_ h_ => by have := HXw.out k_ e_; omega)); replace HO450 := Aside0.mk (R_keptOwn (by (with_reducible repeat (first|apply rA|apply rN|apply rD)); exact HO450.out) rfl hkq (fun k_ e_ h_ => by have := HL449.out k_ e_; omega)); replace HO443 := Aside0.mk (R_keptOwn (by (with_reducible repeat (first|apply rA|apply rN|apply rD)); exact HO443.out) rfl hkq (fun k_ e_ h_ => by have := HL442.out k_ e_; omega)); replace HO446 := Aside0.mk (R_keptOwn (by (with_reducible repeat (first|apply rA|apply rN|apply rD)); exact HO446.out) rfl hkq (fun k_ e_ h_ => by have := HL445.out k_ e_; omega)); replace BK397 := Aside0.mk (blk_kept (by (with_reducible repeat (first | refine bN ?_ _|refine bD ?_|refine bA ?_ _)); exact BK397.out) hkq (fun h_ => by have := HXb397.out; omega)); replace BK398 := Aside0.mk (blk_kept (by (with_reducible repeat (first | refine bN ?_ _|refine bD ?_|refine bA ?_ _)); exact BK398.out) hkq (fun h_ => by have := HXb398.out; omega)); replace BK439 := Aside0.mk (blk_kept (by (with_reducible repeat (first | refine bN ?_ _|refine bD ?_|refine bA ?_ _)); exact BK439.out) hkq (fun h_ => by have := GF439.out; omega)); replace BK447 := Aside0.mk (blk_kept (by (with_reducible repeat (first | refine bN ?_ _|refine bD ?_|refine bA ?_ _)); exact BK447.out) hkq (fun h_ => by have := GF447.out; omega)); replace HB := Aside0.mk hb; clear hD hb hkp hkq HB2 HX; clear HO407 HO410 HO413 HO418 HO421 HO431 HO434 HO437 HO458 HO461 HO464 HO470 HO473; obtain ⟨hcz78_0, hcz78_1, hcz78_2⟩ := bc3 BK447.out; obtain ⟨hfz78_0, hfz78_1, hfz78_2⟩ := bf3 BK447.out) | ((with_reducible refine gate_callee (f := 14) rfl ?_); refine goesL_ (some 55) rfl rfl Tryd.func14 (by kernel_rfl) rfl #[.agg #[.string t440, .slice Ao58 t441.length co58, .slice Ao59 t444.length co59], .int .i64 t475] rfl mA ?_; (with_reducible refine (laws_markHead.calls k t440 (fun k_ => some k_ = (.slice Ao58 t441.length co58 : Value).ownBlock) (.slice Ao58 t441.length co58) t441 (fun k_ => some k_ = (.slice Ao59 t444.length co59 : Value).ownBlock) (.slice Ao59 t444.length co59) t444 t475 t476 t477 t478 w _ ?side1 ?side2 ?side3 A30.out).mono ?_); (case side1 => repeat (first|(with_reducible first|exact HB.out|apply zA|apply zN|apply zD | refine below_set ?_ GE397.out | refine below_set ?_ GE398.out | refine below_set ?_ GE439.out | refine below_set ?_ GE447.out) | exact HB.out)); (case side2 => exact Kd.R_tight rfl HO443.out); (case side3 => exact Kd.R_tight rfl HO446.out); rintro e w79 ⟨rfl, hy0, hy1, hb, hkp⟩; refine ⟨_, rfl, ?_⟩; replace BK397 := Aside0.mk (blk_kept (by (with_reducible repeat (first | refine bN ?_ _|refine bD ?_|refine bA ?_ _)); exact BK397.out) hkp (fun hs_ => Or.elim hs_ (fun e_ => (fun e_ => (Kd.R_ne HO443.out BK397.out (by decide)) e_) e_) (fun e_ => (fun e_ => (Kd.R_ne HO446.out BK397.out (by decide)) e_) e_))); replace BK398 := Aside0.mk (blk_kept (by (with_reducible repeat (first | refine bN ?_ _|refine bD ?_|refine bA ?_ _)); exact BK398.out) hkp (fun hs_ => Or.elim hs_ (fun e_ => (fun e_ => (Kd.R_ne HO443.out BK398.out (by decide)) e_) e_) (fun e_ => (fun e_ => (Kd.R_ne HO446.out BK398.out (by decide)) e_) e_))); replace HO424 := Aside0.mk (Kd.R_mono (ok' := fun k_ => some k_ ≠ (.slice Ao36 t408.length co36 : Value).ownBlock ∧ some k_ ≠ (.slice Ao49 t432.length co49 : Value).ownBlock ∧ some k_ ≠ (.slice Ao62 t448.length co62 : Value).ownBlock ∧ some k_ ≠ (.slice Ao68 t459.length co68 : Value).ownBlock) (Kd.R_keptB ((Kd.R_apart' (Kd.R_apart' HO424.out (Kd.R_typed HO443.out) (by decide)) (Kd.R_typed HO446.out) (by decide))) hkp (fun k_ hk_ hs_ => Or.elim hs_ (fun e_ => (hk_.1.2) e_) (fun e_ => (hk_.2) e_))) (fun k_ hk_ => ⟨hk_.1.1.1.1.1.1.2, hk_.1.1.1.1.1.2, hk_.1.1.1.1.2, hk_.1.1.1.2⟩)); replace BK439 := Aside0.mk (blk_kept (by (with_reducible repeat (first | refine bN ?_ _|refine bD ?_|refine bA ?_ _)); exact BK439.out) hkp (fun hs_ => Or.elim hs_ (fun e_ => (fun e_ => (Kd.R_ne HO443.out BK439.out (by decide)) e_) e_) (fun e_ => (fun e_ => (Kd.R_ne HO446.out BK439.out (by decide)) e_) e_))); replace BK447 := Aside0.mk (blk_kept (by (with_reducible repeat (first | refine bN ?_ _|refine bD ?_|refine bA ?_ _)); exact BK447.out) hkp (fun hs_ => Or.elim hs_ (fun e_ => (fun e_ => (Kd.R_ne HO443.out BK447.out (by decide)) e_) e_) (fun e_ => (fun e_ => (Kd.R_ne HO446.out BK447.out (by decide)) e_) e_))); replace HO450 := Aside0.mk (Kd.R_mono (ok' := fun k_ => some k_ ≠ (.slice Ao36 t408.length co36 : Value).ownBlock ∧ some k_ ≠ (.slice Ao63 t422.length co63 : Value).ownBlock ∧ some k_ ≠ (.slice Ao49 t432.length co49 : Value).ownBlock ∧ some k_ ≠ (.slice Ao68 t459.length co68 : Value).ownBlock) (Kd.R_keptB ((Kd.R_apart' (Kd.R_apart' HO450.out (Kd.R_typed HO443.out) (by decide)) (Kd.R_typed HO446.out) (by decide))) hkp (fun k_ hk_ hs_ => Or.elim hs_ (fun e_ => (hk_.1.2) e_) (fun e_ => (hk_.2) e_))) (fun k_ hk_ => ⟨hk_.1.1.1.1.1.1.2, hk_.1.1.1.1.1.2, hk_.1.1.1.1.2, hk_.1.1.1.2⟩)); replace HO446 := Aside0.mk (Kd.R_reok rfl hy1 (fun k_ e_ => HO446.out.1 k_ e_)); replace HO443 := Aside0.mk (Kd.R_reok rfl hy0 (fun k_ e_ => HO443.out.1 k_ e_)); replace HB := Aside0.mk (hb); (try clear hb); (try clear hkp); (try clear hy0); (try clear hy1)))
      (try simp only [Act.put, sT, sZ, sS])
      go_cut [63] (fun v63 wc => ∃ (kq : Nat) (x63_30 : Bool), v63 = .bool x63_30 ∧ Aside0 (laws_FnExactIdsOf.j0 kq t422 t448 x63_30 a0_0 a0_1 a0_2 a0_3 l0_4 l0_5 l0_6 a0_7 a1_0 l1_1 l1_2 = some true) ∧ Aside0 (kq ≤ k) ∧ Aside0 (Kd.R k64 64 wc w.heap.size (fun k_ => some k_ ≠ ((.slice Ao62 t448.length co62) : Value).ownBlock ∧ some k_ ≠ ((.slice Ao49 t432.length co49) : Value).ownBlock) (.slice Ao63 t422.length co63) t422) ∧ Aside0 (Kd.R k64 64 wc w.heap.size (fun k_ => some k_ ≠ ((.slice Ao63 t422.length co63) : Value).ownBlock ∧ some k_ ≠ ((.slice Ao49 t432.length co49) : Value).ownBlock) (.slice Ao62 t448.length co62) t448) ∧ Aside0 (Kd.R k92 92 wc w.heap.size (fun _ => True) (.slice Ao58 t441.length co58) t477) ∧ Aside0 (Kd.R k85 85 wc w.heap.size (fun _ => True) (.slice Ao59 t444.length co59) t478) ∧ Aside0 (wc.heap[gb397]? = some (.cells #[.int .i64 a0_0, .string a0_1, .string a0_2, .string a0_3, (.slice A0_4 l0_4.length c0_4), (.slice A0_5 l0_5.length c0_5), (.slice A0_6 l0_6.length c0_6), .string a0_7] 26 (0, 0))) ∧ Aside0 (wc.heap[gb398]? = some (.cells #[.string a1_0, (.slice A1_1 l1_1.length c1_1), (.slice A1_2 l1_2.length c1_2)] 30 (0, 0))) ∧ Aside0 (wc.heap[gb439]? = some (.cells #[.int .i64 t425, .string t426, .string t427, .string t428, (.slice Ao48 t429.length co48), (.slice Ao49 t432.length co49), (.slice Ao50 t435.length co50), .string t438] 38 (0, 0))) ∧ Aside0 (wc.heap[gb447]? = some (.cells #[.string t440, (.slice Ao58 t441.length co58), (.slice Ao59 t444.length co59)] 43 (0, 0))) ∧ Aside0 (Below w.heap.size w wc))
      case first =>
       have H := HC31.out
       clear HC31
       by_cases c80 : t476 < 0
       ·rw [if_pos c80] at H
        have c80b0 : decide (t476 < 0) = true := decide_eq_true c80
        clear c80
        (first | rw [c80b0] | (simp only [i64_w, i32_w]; rw [c80b0]) | skip)
        have H' := Aside0.mk H
        clear H
        go_wp2
        go_meet
        case rel => exact ⟨_, (true), rG, H', ⟨by first | omega | exact Nat.le_refl _⟩, ⟨by (with_reducible repeat (first|apply rA|apply rN|apply rD)); exact Kd.R_mono HO424.out (fun _ hk => ⟨hk.2.2.1, hk.2.1⟩)⟩, ⟨by (with_reducible repeat (first|apply rA|apply rN|apply rD)); exact Kd.R_mono HO450.out (fun _ hk => ⟨hk.2.1, hk.2.2.1⟩)⟩, ⟨by (with_reducible repeat (first|apply rA|apply rN|apply rD)); exact Kd.R_mono HO443.out (fun _ hk => trivial)⟩, ⟨by (with_reducible repeat (first|apply rA|apply rN|apply rD)); exact Kd.R_mono HO446.out (fun _ hk => trivial)⟩, ⟨by (with_reducible repeat (first | refine bN ?_ _|refine bD ?_|refine bA ?_ _)); exact BK397.out⟩, ⟨by (with_reducible repeat (first | refine bN ?_ _|refine bD ?_|refine bA ?_ _)); exact BK398.out⟩, ⟨by (with_reducible repeat (first | refine bN ?_ _|refine bD ?_|refine bA ?_ _)); exact BK439.out⟩, ⟨by (with_reducible repeat (first | refine bN ?_ _|refine bD ?_|refine bA ?_ _)); exact BK447.out⟩, ⟨hB⟩⟩
       ·rw [if_neg c80] at H
        have c80b0 : decide (t476 < 0) = false := decide_eq_false c80
        clear c80
        (first | rw [c80b0] | (simp only [i64_w, i32_w]; rw [c80b0]) | skip)
        replace H := Option.bind_eq_some_iff.mp H
        obtain ⟨t479, A810, H⟩ := H
        try dsimp only at H
        obtain rfl : t479 = true := by
         cases t479 with
         | true => rfl
         | false => exact absurd H (laws_FnExactIdsOf.j0_t _ _ _ _ _ _ _ _ _ _ _ _ _ _)
        have A81 := Aside0.mk A810
        clear A810
        have H' := Aside0.mk H
        clear H
        go_wp2_with (first | (go_at_call 10; (with_reducible refine (laws_eqAttrS.calls k _ _ t448 _ _ t422 true _ ?side1 ?side2 ?side3 ?side4 A81.out).mono ?_); (case side1 => repeat (first | exact (Kd.R_reads' HO450.out).2.2 | (with_reducible refine Kd.C_alloc ?_ _) | (with_reducible refine Kd.C_drewN ?_ _) | (with_reducible refine Kd.C_drew ?_))); (case side2 => exact (Kd.R_reads' HO450.out).2.1); (case side3 => repeat (first | exact (Kd.R_reads' HO424.out).2.2 | (with_reducible refine Kd.C_alloc ?_ _) | (with_reducible refine Kd.C_drewN ?_ _) | (with_reducible refine Kd.C_drew ?_))); (case side4 => exact (Kd.R_reads' HO424.out).2.1); rintro e w82 ⟨rfl, hb⟩; replace HO424 := Aside0.mk (Kd.R_below (by (with_reducible repeat (first|apply rA|apply rN|apply rD)); exact HO424.out) hb); replace HO443 := Aside0.mk (Kd.R_below (by (with_reducible repeat (first|apply rA|apply rN|apply rD)); exact HO443.out) hb); replace HO446 := Aside0.mk (Kd.R_below (by (with_reducible repeat (first|apply rA|apply rN|apply rD)); exact HO446.out) hb); replace HO450 := Aside0.mk (Kd.R_below (by (with_reducible repeat (first|apply rA|apply rN|apply rD)); exact HO450.out) hb); replace BK397 := Aside0.mk (blk_below (g := gb397) (by (with_reducible repeat (first | refine bN ?_ _|refine bD ?_|refine bA ?_ _)); exact BK397.out) hb); replace BK398 := Aside0.mk (blk_below (g := gb398) (by (with_reducible repeat (first | refine bN ?_ _|refine bD ?_|refine bA ?_ _)); exact BK398.out) hb); replace BK439 := Aside0.mk (blk_below (g := gb439) (by (with_reducible repeat (first | refine bN ?_ _|refine bD ?_|refine bA ?_ _)); exact BK439.out) hb); replace BK447 := Aside0.mk (blk_below (g := gb447) (by (with_reducible repeat (first | refine bN ?_ _|refine bD ?_|refine bA ?_ _)); exact BK447.out) hb); replace HB := Aside0.mk (below_step hB hb); (try clear hb); (try clear hb2); (try clear hk); (try clear hi)))
        go_meet
        case rel => exact ⟨_, (!true), rG, H', ⟨by first | omega | exact Nat.le_refl _⟩, ⟨by (with_reducible repeat (first|apply rA|apply rN|apply rD)); exact Kd.R_mono HO424.out (fun _ hk => ⟨hk.2.2.1, hk.2.1⟩)⟩, ⟨by (with_reducible repeat (first|apply rA|apply rN|apply rD)); exact Kd.R_mono HO450.out (fun _ hk => ⟨hk.2.1, hk.2.2.1⟩)⟩, ⟨by (with_reducible repeat (first|apply rA|apply rN|apply rD)); exact Kd.R_mono HO443.out (fun _ hk => trivial)⟩, ⟨by (with_reducible repeat (first|apply rA|apply rN|apply rD)); exact Kd.R_mono HO446.out (fun _ hk => trivial)⟩, ⟨by (with_reducible repeat (first | refine bN ?_ _|refine bD ?_|refine bA ?_ _)); exact BK397.out⟩, ⟨by (with_reducible repeat (first | refine bN ?_ _|refine bD ?_|refine bA ?_ _)); exact BK398.out⟩, ⟨by (with_reducible repeat (first | refine bN ?_ _|refine bD ?_|refine bA ?_ _)); exact BK439.out⟩, ⟨by (with_reducible repeat (first | refine bN ?_ _|refine bD ?_|refine bA ?_ _)); exact BK447.out⟩, ⟨hB⟩⟩
      case rest =>
       clear HC31
       try clear c28; try clear c25; try clear c22; try clear c14; try clear c14b0; try clear c9; try clear c9b0
       try clear hcz12_0 hcz12_1 hcz12_2
       try clear hcz42_0 hcz42_1 hcz42_2 hcz42_3 hcz42_4 hcz42_5 hcz42_6 hcz42_7
       try clear hcz47_0 hcz47_1 hcz47_2 hcz47_3 hcz47_4 hcz47_5 hcz47_6 hcz47_7
       try clear hcz51_0 hcz51_1 hcz51_2
       try clear hcz57_0 hcz57_1 hcz57_2
       try clear hcz60_0 hcz60_1 hcz60_2 hcz60_3 hcz60_4 hcz60_5 hcz60_6 hcz60_7
       try clear hcz76_0 hcz76_1 hcz76_2 hcz76_3 hcz76_4 hcz76_5 hcz76_6 hcz76_7
       try clear hcz78_0 hcz78_1 hcz78_2
       try clear hcz7_0 hcz7_1 hcz7_2 hcz7_3 hcz7_4 hcz7_5 hcz7_6 hcz7_7
       try clear hfz12_0 hfz12_1 hfz12_2
       try clear hfz42_0 hfz42_1 hfz42_2 hfz42_3 hfz42_4 hfz42_5 hfz42_6 hfz42_7
       try clear hfz47_0 hfz47_1 hfz47_2 hfz47_3 hfz47_4 hfz47_5 hfz47_6 hfz47_7
       try clear hfz51_0 hfz51_1 hfz51_2
       try clear hfz57_0 hfz57_1 hfz57_2
       try clear hfz60_0 hfz60_1 hfz60_2 hfz60_3 hfz60_4 hfz60_5 hfz60_6 hfz60_7
       try clear hfz76_0 hfz76_1 hfz76_2 hfz76_3 hfz76_4 hfz76_5 hfz76_6 hfz76_7
       try clear hfz78_0 hfz78_1 hfz78_2
       try clear hfz7_0 hfz7_1 hfz7_2 hfz7_3 hfz7_4 hfz7_5 hfz7_6 hfz7_7
       obtain ⟨kq, x63_30, rfl, HA, HJ30, HO_6, HO_9, HO_448001, HO_448002, BK397, BK398, BK439, BK447, HB⟩ := hcut
       have hl448001_30 := (Kd.R_reads' HO_448001.out).1
       rw [hl448001_30] at HO_448001
       (try simp only [hl448001_30])
       (try simp only [hl448001_30] at BK397)
       (try simp only [hl448001_30] at BK398)
       (try simp only [hl448001_30] at BK439)
       (try simp only [hl448001_30] at BK447)
       (try simp only [hl448001_30] at HO_6)
       (try simp only [hl448001_30] at HO_9)
       (try simp only [hl448001_30] at HO_440004)
       (try simp only [hl448001_30] at HO_440005)
       (try simp only [hl448001_30] at HO_440006)
       (try simp only [hl448001_30] at HO_448002)
       have hl448002_30 := (Kd.R_reads' HO_448002.out).1
       rw [hl448002_30] at HO_448002
       (try simp only [hl448002_30])
       (try simp only [hl448002_30] at BK397)
       (try simp only [hl448002_30] at BK398)
       (try simp only [hl448002_30] at BK439)
       (try simp only [hl448002_30] at BK447)
       (try simp only [hl448002_30] at HO_6)
       (try simp only [hl448002_30] at HO_9)
       (try simp only [hl448002_30] at HO_440004)
       (try simp only [hl448002_30] at HO_440005)
       (try simp only [hl448002_30] at HO_440006)
       (try simp only [hl448002_30] at HO_448001)
       cases kq with
       | zero => exact absurd HA.out (by simp [laws_FnExactIdsOf.j0])
       | succ kj30 =>
        have H := HA.out
        clear HA
        simp only [laws_FnExactIdsOf.j0] at H
        by_cases c83 : x63_30 = true
        ·subst c83
         exact absurd (show some false = some true from by rw [if_pos rfl] at H; exact H) (by simp)
        ·replace c83 := Bool.eq_false_iff.mpr c83
         subst c83
         rw [if_neg (show ¬ (false = true) by decide)] at H
         replace H := Option.bind_eq_some_iff.mp H
         obtain ⟨⟨t480, t481⟩, A840, H⟩ := H
         try dsimp only at H
         have A84 := Aside0.mk A840
         clear A840
         replace H := Option.bind_eq_some_iff.mp H
         obtain ⟨t482, A850, H⟩ := H
         try dsimp only at H
         have A85 := Aside0.mk A850
         clear A850
         go_wp2_with (first | ((with_reducible refine gate_callee (f := 15) rfl ?_); refine goesL_ (some 66) rfl rfl Tryd.func15 (by kernel_rfl) rfl #[.slice Ao62 t448.length co62, .int .i64 1] rfl mA ?_; (with_reducible refine (laws_markAttrS.calls kj30 (fun k_ => some k_ = (.slice Ao62 t448.length co62 : Value).ownBlock) (.slice Ao62 t448.length co62) t448 1 t480 t481 w _ ?side1 ?side2 A84.out).mono ?_); (case side1 => repeat (first|(with_reducible first|exact HB.out|apply zA|apply zN|apply zD | refine below_set ?_ GE397.out | refine below_set ?_ GE398.out | refine below_set ?_ GE439.out | refine below_set ?_ GE447.out) | exact HB.out)); (case side2 => exact Kd.R_tight rfl HO_9.out); rintro e w86 ⟨rfl, hy0, hb, hkp⟩; refine ⟨_, rfl, ?_⟩; replace HO_6 := Aside0.mk (Kd.R_mono (ok' := fun k_ => some k_ ≠ (.slice Ao62 t448.length co62 : Value).ownBlock ∧ some k_ ≠ (.slice Ao49 t432.length co49 : Value).ownBlock) (Kd.R_keptB (HO_6.out) hkp (fun k_ hk_ hs_ => (hk_.1) hs_)) (fun k_ hk_ => ⟨hk_.1.1, hk_.1.2⟩)); replace HO_448001 := Aside0.mk (Kd.R_mono (ok' := fun k_ => True) (Kd.R_keptB ((Kd.R_apart' HO_448001.out (Kd.R_typed HO_9.out) (by decide))) hkp (fun k_ hk_ hs_ => (hk_.2) hs_)) (fun k_ hk_ => trivial)); replace HO_448002 := Aside0.mk (Kd.R_mono (ok' := fun k_ => True) (Kd.R_keptB ((Kd.R_apart' HO_448002.out (Kd.R_typed HO_9.out) (by decide))) hkp (fun k_ hk_ hs_ => (hk_.2) hs_)) (fun k_ hk_ => trivial)); replace BK397 := Aside0.mk (blk_kept (by (with_reducible repeat (first | refine bN ?_ _|refine bD ?_|refine bA ?_ _)); exact BK397.out) hkp (fun hs_ => (fun e_ => (Kd.R_ne HO_9.out BK397.out (by decide)) e_) hs_)); replace BK398 := Aside0.mk (blk_kept (by (with_reducible repeat (first | refine bN ?_ _|refine bD ?_|refine bA ?_ _)); exact BK398.out) hkp (fun hs_ => (fun e_ => (Kd.R_ne HO_9.out BK398.out (by decide)) e_) hs_)); replace BK439 := Aside0.mk (blk_kept (by (with_reducible repeat (first | refine bN ?_ _|refine bD ?_|refine bA ?_ _)); exact BK439.out) hkp (fun hs_ => (fun e_ => (Kd.R_ne HO_9.out BK439.out (by decide)) e_) hs_)); replace BK447 := Aside0.mk (blk_kept (by (with_reducible repeat (first | refine bN ?_ _|refine bD ?_|refine bA ?_ _)); exact BK447.out) hkp (fun hs_ => (fun e_ => (Kd.R_ne HO_9.out BK447.out (by decide)) e_) hs_)); replace HO_9 := Aside0.mk (Kd.R_reok rfl hy0 (fun k_ e_ => HO_9.out.1 k_ e_)); replace HB := Aside0.mk (hb); (try clear hb); (try clear hkp); (try clear hy0)) | ((with_reducible refine gate_callee (f := 16) rfl ?_); refine goesL_ (some 69) rfl rfl Tryd.func16 (by kernel_rfl) rfl #[.slice Ao62 t481.length co62, .int .i64 1] rfl (by (try simp only [List.map_toArray, List.map_cons, List.map_nil]); first | done | (rw [show t481.length = t448.length from (Kd.R_reads' HO_9.out).1.symm] <;> rfl) | rfl | (simp only [List.length_drop, List.length_take]; rfl)) ?_; (with_reducible refine (laws_heldAttrS.calls kj30 _ _ t481 1 t482 _ ?side1 ?side2 A85.out).mono ?_); (case side1 => repeat (first | exact (Kd.R_reads' HO_9.out).2.2 | (with_reducible refine Kd.C_alloc ?_ _) | (with_reducible refine Kd.C_drewN ?_ _) | (with_reducible refine Kd.C_drew ?_))); (case side2 => rw [show t481.length = t448.length from (Kd.R_reads' HO_9.out).1.symm]; exact (Kd.R_reads' HO_9.out).2.1); rintro e w87 ⟨rfl, hb⟩; refine ⟨_, rfl, ?_⟩; replace HO_6 := Aside0.mk (Kd.R_below (by (with_reducible repeat (first|apply rA|apply rN|apply rD)); exact HO_6.out) hb); replace HO_9 := Aside0.mk (Kd.R_below (by (with_reducible repeat (first|apply rA|apply rN|apply rD)); exact HO_9.out) hb); replace HO_448001 := Aside0.mk (Kd.R_below (by (with_reducible repeat (first|apply rA|apply rN|apply rD)); exact HO_448001.out) hb); replace HO_448002 := Aside0.mk (Kd.R_below (by (with_reducible repeat (first|apply rA|apply rN|apply rD)); exact HO_448002.out) hb); replace BK397 := Aside0.mk (blk_below (g := gb397) (by (with_reducible repeat (first | refine bN ?_ _|refine bD ?_|refine bA ?_ _)); exact BK397.out) hb); replace BK398 := Aside0.mk (blk_below (g := gb398) (by (with_reducible repeat (first | refine bN ?_ _|refine bD ?_|refine bA ?_ _)); exact BK398.out) hb); replace BK439 := Aside0.mk (blk_below (g := gb439) (by (with_reducible repeat (first | refine bN ?_ _|refine bD ?_|refine bA ?_ _)); exact BK439.out) hb); replace BK447 := Aside0.mk (blk_below (g := gb447) (by (with_reducible repeat (first | refine bN ?_ _|refine bD ?_|refine bA ?_ _)); exact BK447.out) hb); replace HB := Aside0.mk (below_step hB hb); (try clear hb); (try clear hb2); (try clear hk); (try clear hi); refine halt_ ?_; intro q_ hq_))
         obtain ⟨rfl⟩ := hq_
         by_cases c88 : t482 < 0
         ·rw [if_pos c88] at H
          exact absurd H (by simp)
         ·rw [if_neg c88] at H
          have c88b0 : decide (t482 < 0) = false := decide_eq_false c88
          clear c88
          by_cases c89 : t482 = t480
          ·rw [if_pos c89] at H
           have c89b0 : (t482 == t480) = true := beq_iff_eq.mpr c89
           have c89b1 : (t482 != t480) = false := bne_eq_false_iff_eq.mpr c89
           clear c89
           replace H := Option.bind_eq_some_iff.mp H
           obtain ⟨⟨t483, t484, t485, t486, t487, t490, t493, t496⟩, A900, H⟩ := H
           try dsimp only at H
           have A90 := Aside0.mk A900
           clear A900
           replace H := Option.bind_eq_some_iff.mp H
           obtain ⟨⟨t497, t498, t501⟩, A910, H⟩ := H
           try dsimp only at H
           have A91 := Aside0.mk A910
           clear A910
           replace H := Option.bind_eq_some_iff.mp H
           obtain ⟨t504, A920, H⟩ := H
           try dsimp only at H
           have A92 := Aside0.mk A920
           clear A920
           replace H := Option.bind_eq_some_iff.mp H
           obtain ⟨t507, A930, H⟩ := H
           try dsimp only at H
           have A93 := Aside0.mk A930
           clear A930
           by_cases c94 : t507 = true
           ·subst c94
            rw [if_pos rfl] at H
            replace H := Option.bind_eq_some_iff.mp H
            obtain ⟨t508, A950, H⟩ := H
            try dsimp only at H
            have A95 := Aside0.mk A950
            clear A950
            by_cases c96 : t508 < 0
            ·rw [if_pos c96] at H
             exact absurd H (by simp)
            ·rw [if_neg c96] at H
             have c96b0 : decide (t508 < 0) = false := decide_eq_false c96
             clear c96
             by_cases c109 : t508 = t480
             ·rw [if_pos c109] at H
              have c109b0 : (t508 == t480) = true := beq_iff_eq.mpr c109
              have c109b1 : (t508 != t480) = false := bne_eq_false_iff_eq.mpr c109
              clear c109
              first | obtain rfl := Option.some.inj H | clear H
              try go_wp2
              replace HO_6 := Aside0.mk (Kd.R_drew HO_6.out)
              replace HO_9 := Aside0.mk (Kd.R_drew HO_9.out)
              replace HO_448001 := Aside0.mk (Kd.R_drew HO_448001.out)
              replace HO_448002 := Aside0.mk (Kd.R_drew HO_448002.out)
              replace BK397 := Aside0.mk (blk_drew BK397.out)
              replace BK398 := Aside0.mk (blk_drew BK398.out)
              replace BK439 := Aside0.mk (blk_drew BK439.out)
              replace BK447 := Aside0.mk (blk_drew BK447.out)
              replace HB := Aside0.mk (below_drew1 HB.out)
              refine start_ (n := 6) (S := fun w' => w'.cell? ⟨gb397, 0, none⟩ = some (.int .i64 a0_0) ∧ w'.cell? ⟨gb397, 1, none⟩ = some (.string a0_1) ∧ w'.cell? ⟨gb397, 2, none⟩ = some (.string a0_2) ∧ w'.cell? ⟨gb397, 3, none⟩ = some (.string a0_3) ∧ w'.cell? ⟨gb397, 4, none⟩ = some (.slice A0_4 l0_4.length c0_4) ∧ w'.cell? ⟨gb397, 5, none⟩ = some (.slice A0_5 l0_5.length c0_5) ∧ w'.cell? ⟨gb397, 6, none⟩ = some (.slice A0_6 l0_6.length c0_6) ∧ w'.cell? ⟨gb397, 7, none⟩ = some (.string a0_7) ∧ w'.cell? ⟨gb398, 0, none⟩ = some (.string a1_0) ∧ w'.cell? ⟨gb398, 1, none⟩ = some (.slice A1_1 l1_1.length c1_1) ∧ w'.cell? ⟨gb398, 2, none⟩ = some (.slice A1_2 l1_2.length c1_2)) (ds := []) #[false, false, false, false, false, false] (by kernel_rfl) rfl rfl ⟨(blk_cell BK397.out 0).trans rfl, (blk_cell BK397.out 1).trans rfl, (blk_cell BK397.out 2).trans rfl, (blk_cell BK397.out 3).trans rfl, (blk_cell BK397.out 4).trans rfl, (blk_cell BK397.out 5).trans rfl, (blk_cell BK397.out 6).trans rfl, (blk_cell BK397.out 7).trans rfl, (blk_cell BK398.out 0).trans rfl, (blk_cell BK398.out 1).trans rfl, (blk_cell BK398.out 2).trans rfl⟩ (fun hHeld => ?_)
              generalize w87.drew = w110 at HO_6 HO_9 HO_448001 HO_448002 BK397 BK398 BK439 BK447 HB hHeld ⊢
              refine take_ (i := 0) (N := some 75) (v := ?_) (a' := ?_) (tf 1 5) rfl rfl (by kernel_rfl) (fun _ _ _ h => h) (Or.inl ⟨by rfl, ?_⟩) hHeld ?_ ?_
              rotate_left
              ·rintro w' ⟨s0, s1, s2, s3, s4, s5, s6, s7, s8, s9, s10⟩
               go_simp
               with_reducible rfl
              rotate_left
              ·simp only [Act.put, sT, sZ, sS, i64_w, i32_w]
               rfl
              refine take_ (i := 2) (N := some 77) (v := ?_) (a' := ?_) #[true, false, true, false, false, false] rfl rfl (by kernel_rfl) (fun _ _ _ h => h) (Or.inl ⟨by rfl, ?_⟩) hHeld ?_ ?_
              rotate_left
              ·rintro w' ⟨s0, s1, s2, s3, s4, s5, s6, s7, s8, s9, s10⟩
               go_simp
               with_reducible rfl
              rotate_left
              ·simp only [Act.put, sT, sZ, sS, i64_w, i32_w]
               rfl
              refine one_ (i := 1) (N := some 76) (tf 3 3) rfl rfl (by kernel_rfl) (by decide) (fun K hK => ?_)
              refine goes_ Tryd.func7 (by kernel_rfl) rfl #[.agg #[.int .i64 a0_0, .string a0_1, .string a0_2, .string a0_3, .slice A0_4 l0_4.length c0_4, .slice A0_5 l0_5.length c0_5, .slice A0_6 l0_6.length c0_6, .string a0_7]] (by rfl) rfl rfl mA ?_
              with_reducible refine (laws_toNode.calls kj30 a0_0 a0_1 a0_2 a0_3 _ _ l0_4 _ _ l0_5 _ _ l0_6 a0_7 t483 t484 t485 t486 t487 t490 t493 t496 _ ?side1 ?side2 ?side3 ?side4 ?side5 ?side6 A90.out).mono ?_
              (case side1 => repeat (first | exact (Kd.C_below HR0_4.out HB.out) | (with_reducible refine Kd.C_alloc ?_ _) | (with_reducible refine Kd.C_drewN ?_ _) | (with_reducible refine Kd.C_drew ?_)))
              (case side2 => exact HC0_4.out)
              (case side3 => repeat (first | exact (Kd.C_below HR0_5.out HB.out) | (with_reducible refine Kd.C_alloc ?_ _) | (with_reducible refine Kd.C_drewN ?_ _) | (with_reducible refine Kd.C_drew ?_)))
              (case side4 => exact HC0_5.out)
              (case side5 => repeat (first | exact (Kd.C_below HR0_6.out HB.out) | (with_reducible refine Kd.C_alloc ?_ _) | (with_reducible refine Kd.C_drewN ?_ _) | (with_reducible refine Kd.C_drew ?_)))
              (case side6 => exact HC0_6.out)
              rintro e w111 ⟨v488, v491, v494, rfl, ho0, ho1, ho2, hb⟩
              refine ⟨_, rfl, ?_⟩
              replace HO_448001 := Aside0.mk (Kd.R_below (by (with_reducible repeat (first|apply rA|apply rN|apply rD)); exact HO_448001.out) hb)
              replace HO_448002 := Aside0.mk (Kd.R_below (by (with_reducible repeat (first|apply rA|apply rN|apply rD)); exact HO_448002.out) hb)
              have HO489 := Aside0.mk (Kd.R_lower ho0 (below_size hB))
              have HO492 := Aside0.mk (Kd.R_lower (Kd.R_new' (Kd.R_new' ho1 (Kd.R_lt (by (with_reducible repeat (first|apply rA|apply rN|apply rD)); exact HO_6.out))) (Kd.R_lt (by (with_reducible repeat (first|apply rA|apply rN|apply rD)); exact HO_9.out))) (below_size hB))
              have HO495 := Aside0.mk (Kd.R_lower (Kd.R_newB (Kd.R_new' (Kd.R_new' ho2 (Kd.R_lt (by (with_reducible repeat (first|apply rA|apply rN|apply rD)); exact HO_6.out))) (Kd.R_lt (by (with_reducible repeat (first|apply rA|apply rN|apply rD)); exact HO_9.out))) (g := gb439) (by (with_reducible repeat (first | refine bN ?_ _|refine bD ?_|refine bA ?_ _)); exact BK439.out)) (below_size hB))
              replace HO_6 := Aside0.mk (Kd.R_elder' (by (with_reducible repeat (first|apply rA|apply rN|apply rD)); exact HO_6.out) (Kd.R_base ho1) hb)
              replace HO_9 := Aside0.mk (Kd.R_elder' (by (with_reducible repeat (first|apply rA|apply rN|apply rD)); exact HO_9.out) (Kd.R_base ho1) hb)
              replace BK397 := Aside0.mk (blk_below (g := gb397) (by (with_reducible repeat (first | refine bN ?_ _|refine bD ?_|refine bA ?_ _)); exact BK397.out) hb)
              replace BK398 := Aside0.mk (blk_below (g := gb398) (by (with_reducible repeat (first | refine bN ?_ _|refine bD ?_|refine bA ?_ _)); exact BK398.out) hb)
              replace BK439 := Aside0.mk (blk_below (g := gb439) (by (with_reducible repeat (first | refine bN ?_ _|refine bD ?_|refine bA ?_ _)); exact BK439.out) hb)
              replace BK447 := Aside0.mk (blk_below (g := gb447) (by (with_reducible repeat (first | refine bN ?_ _|refine bD ?_|refine bA ?_ _)); exact BK447.out) hb)
              replace HB := Aside0.mk (below_step hB hb)
              (try clear hb)
              (try clear hb2)
              (try clear hk)
              (try clear hi)
              (try clear ho0)
              (try clear ho1)
              (try clear ho2)
              refine hK.out _ _ ⟨(blk_cell BK397.out 0).trans rfl, (blk_cell BK397.out 1).trans rfl, (blk_cell BK397.out 2).trans rfl, (blk_cell BK397.out 3).trans rfl, (blk_cell BK397.out 4).trans rfl, (blk_cell BK397.out 5).trans rfl, (blk_cell BK397.out 6).trans rfl, (blk_cell BK397.out 7).trans rfl, (blk_cell BK398.out 0).trans rfl, (blk_cell BK398.out 1).trans rfl, (blk_cell BK398.out 2).trans rfl⟩ (fun hHeld => ?_)
              clear hK K
              refine norm_ (a' := ?_) ?_ ?_
              rotate_left
              ·show Act.put _ (some 76) _ = _
               simp only [Act.put, sT, sZ, sS, i64_w, i32_w]
               rfl
              refine one_ (i := 3) (N := some 78) (tf 4 2) rfl rfl (by kernel_rfl) (by decide) (fun K hK => ?_)
              refine goes_ Tryd.func8 (by kernel_rfl) rfl #[.agg #[.string a1_0, .slice A1_1 l1_1.length c1_1, .slice A1_2 l1_2.length c1_2]] (by rfl) rfl rfl mA ?_
              with_reducible refine (laws_toHead.calls kj30 a1_0 _ _ l1_1 _ _ l1_2 t497 t498 t501 _ ?side1 ?side2 ?side3 ?side4 A91.out).mono ?_
              (case side1 => repeat (first | exact (Kd.C_below HR1_1.out HB.out) | (with_reducible refine Kd.C_alloc ?_ _) | (with_reducible refine Kd.C_drewN ?_ _) | (with_reducible refine Kd.C_drew ?_)))
              (case side2 => exact HC1_1.out)
              (case side3 => repeat (first | exact (Kd.C_below HR1_2.out HB.out) | (with_reducible refine Kd.C_alloc ?_ _) | (with_reducible refine Kd.C_drewN ?_ _) | (with_reducible refine Kd.C_drew ?_)))
              (case side4 => exact HC1_2.out)
              rintro e w112 ⟨v499, v502, rfl, ho0, ho1, hb⟩
              refine ⟨_, rfl, ?_⟩
              replace HO_6 := Aside0.mk (Kd.R_below (by (with_reducible repeat (first|apply rA|apply rN|apply rD)); exact HO_6.out) hb)
              replace HO_9 := Aside0.mk (Kd.R_below (by (with_reducible repeat (first|apply rA|apply rN|apply rD)); exact HO_9.out) hb)
              replace HO489 := Aside0.mk (Kd.R_below (by (with_reducible repeat (first|apply rA|apply rN|apply rD)); exact HO489.out) hb)
              replace HO492 := Aside0.mk (Kd.R_below (by (with_reducible repeat (first|apply rA|apply rN|apply rD)); exact HO492.out) hb)
              replace HO495 := Aside0.mk (Kd.R_below (by (with_reducible repeat (first|apply rA|apply rN|apply rD)); exact HO495.out) hb)
              have HO500 := Aside0.mk (Kd.R_lower (Kd.R_new' ho0 (Kd.R_lt (by (with_reducible repeat (first|apply rA|apply rN|apply rD)); exact HO_448001.out))) (below_size hB))
              replace HO_448001 := Aside0.mk (Kd.R_elder' (by (with_reducible repeat (first|apply rA|apply rN|apply rD)); exact HO_448001.out) (Kd.R_base ho0) hb)
              have HO503 := Aside0.mk (Kd.R_lower (Kd.R_new' ho1 (Kd.R_lt (by (with_reducible repeat (first|apply rA|apply rN|apply rD)); exact HO_448002.out))) (below_size hB))
              replace HO_448002 := Aside0.mk (Kd.R_elder' (by (with_reducible repeat (first|apply rA|apply rN|apply rD)); exact HO_448002.out) (Kd.R_base ho1) hb)
              replace BK397 := Aside0.mk (blk_below (g := gb397) (by (with_reducible repeat (first | refine bN ?_ _|refine bD ?_|refine bA ?_ _)); exact BK397.out) hb)
              replace BK398 := Aside0.mk (blk_below (g := gb398) (by (with_reducible repeat (first | refine bN ?_ _|refine bD ?_|refine bA ?_ _)); exact BK398.out) hb)
              replace BK439 := Aside0.mk (blk_below (g := gb439) (by (with_reducible repeat (first | refine bN ?_ _|refine bD ?_|refine bA ?_ _)); exact BK439.out) hb)
              replace BK447 := Aside0.mk (blk_below (g := gb447) (by (with_reducible repeat (first | refine bN ?_ _|refine bD ?_|refine bA ?_ _)); exact BK447.out) hb)
              replace HB := Aside0.mk (below_step hB hb)
              (try clear hb)
              (try clear hb2)
              (try clear hk)
              (try clear hi)
              (try clear ho0)
              (try clear ho1)
              obtain ⟨Ao113, co113, eo113⟩ := Kd.R_slice HO489.out
              (first | subst eo113 | (injection eo113 with f1_ f2_ f3_; have f4_ := f1_.symm; have f5_ := f3_.symm; clear f1_ f2_ f3_; subst f4_; subst f5_))
              obtain ⟨Ao114, co114, eo114⟩ := Kd.R_slice HO492.out
              (first | subst eo114 | (injection eo114 with f1_ f2_ f3_; have f4_ := f1_.symm; have f5_ := f3_.symm; clear f1_ f2_ f3_; subst f4_; subst f5_))
              obtain ⟨Ao115, co115, eo115⟩ := Kd.R_slice HO495.out
              (first | subst eo115 | (injection eo115 with f1_ f2_ f3_; have f4_ := f1_.symm; have f5_ := f3_.symm; clear f1_ f2_ f3_; subst f4_; subst f5_))
              obtain ⟨Ao116, co116, eo116⟩ := Kd.R_slice HO500.out
              (first | subst eo116 | (injection eo116 with f1_ f2_ f3_; have f4_ := f1_.symm; have f5_ := f3_.symm; clear f1_ f2_ f3_; subst f4_; subst f5_))
              obtain ⟨Ao117, co117, eo117⟩ := Kd.R_slice HO503.out
              (first | subst eo117 | (injection eo117 with f1_ f2_ f3_; have f4_ := f1_.symm; have f5_ := f3_.symm; clear f1_ f2_ f3_; subst f4_; subst f5_))
              refine hK.out _ _ ⟨(blk_cell BK397.out 0).trans rfl, (blk_cell BK397.out 1).trans rfl, (blk_cell BK397.out 2).trans rfl, (blk_cell BK397.out 3).trans rfl, (blk_cell BK397.out 4).trans rfl, (blk_cell BK397.out 5).trans rfl, (blk_cell BK397.out 6).trans rfl, (blk_cell BK397.out 7).trans rfl, (blk_cell BK398.out 0).trans rfl, (blk_cell BK398.out 1).trans rfl, (blk_cell BK398.out 2).trans rfl⟩ (fun hHeld => ?_)
              clear hK K
              refine norm_ (a' := ?_) ?_ ?_
              rotate_left
              ·show Act.put _ (some 78) _ = _
               simp only [Act.put, sT, sZ, sS, i64_w, i32_w]
               rfl
              refine one_ (i := 4) (N := some 79) (tf 5 1) rfl rfl (by kernel_rfl) (by decide) (fun K hK => ?_)
              refine goes_ Tryd.func9 (by kernel_rfl) rfl #[.agg #[.int .i64 t483, .string t484, .string t485, .string t486, .slice Ao113 t487.length co113, .slice Ao114 t490.length co114, .slice Ao115 t493.length co115, .string t496], .agg #[.string t497, .slice Ao116 t498.length co116, .slice Ao117 t501.length co117]] (by rfl) rfl rfl mA ?_
              with_reducible refine (impl_IdsOf.calls kj30 t483 t484 t485 t486 _ _ t487 _ _ t490 _ _ t493 t496 t497 _ _ t498 _ _ t501 t504 _ ?side1 ?side2 ?side3 ?side4 ?side5 ?side6 ?side7 ?side8 ?side9 ?side10 ?tabs A92.out).mono ?_
              case tabs => first | exact Tabs.below HT.out hB | (repeat (first | exact HT.out | (with_reducible refine Tabs.drewN ?_ _) | (with_reducible refine Tabs.drew ?_) | (with_reducible refine Tabs.alloc ?_ _)))
              (case side1 => repeat (first | exact (Kd.R_reads' HO489.out).2.2 | (with_reducible refine Kd.C_alloc ?_ _) | (with_reducible refine Kd.C_drewN ?_ _) | (with_reducible refine Kd.C_drew ?_)))
              (case side2 => exact (Kd.R_reads' HO489.out).2.1)
              (case side3 => repeat (first | exact (Kd.R_reads' HO492.out).2.2 | (with_reducible refine Kd.C_alloc ?_ _) | (with_reducible refine Kd.C_drewN ?_ _) | (with_reducible refine Kd.C_drew ?_)))
              (case side4 => exact (Kd.R_reads' HO492.out).2.1)
              (case side5 => repeat (first | exact (Kd.R_reads' HO495.out).2.2 | (with_reducible refine Kd.C_alloc ?_ _) | (with_reducible refine Kd.C_drewN ?_ _) | (with_reducible refine Kd.C_drew ?_)))
              (case side6 => exact (Kd.R_reads' HO495.out).2.1)
              (case side7 => repeat (first | exact (Kd.R_reads' HO500.out).2.2 | (with_reducible refine Kd.C_alloc ?_ _) | (with_reducible refine Kd.C_drewN ?_ _) | (with_reducible refine Kd.C_drew ?_)))
              (case side8 => exact (Kd.R_reads' HO500.out).2.1)
              (case side9 => repeat (first | exact (Kd.R_reads' HO503.out).2.2 | (with_reducible refine Kd.C_alloc ?_ _) | (with_reducible refine Kd.C_drewN ?_ _) | (with_reducible refine Kd.C_drew ?_)))
              (case side10 => exact (Kd.R_reads' HO503.out).2.1)
              rintro e w118 ⟨v505, rfl, ho0, hb⟩
              refine ⟨_, rfl, ?_⟩
              replace HO_448001 := Aside0.mk (Kd.R_below (by (with_reducible repeat (first|apply rA|apply rN|apply rD)); exact HO_448001.out) hb)
              replace HO_448002 := Aside0.mk (Kd.R_below (by (with_reducible repeat (first|apply rA|apply rN|apply rD)); exact HO_448002.out) hb)
              replace HO489 := Aside0.mk (Kd.R_below (by (with_reducible repeat (first|apply rA|apply rN|apply rD)); exact HO489.out) hb)
              replace HO495 := Aside0.mk (Kd.R_elder' (by (with_reducible repeat (first|apply rA|apply rN|apply rD)); exact HO495.out) (Kd.R_base ho0) hb)
              replace HO500 := Aside0.mk (Kd.R_below (by (with_reducible repeat (first|apply rA|apply rN|apply rD)); exact HO500.out) hb)
              replace HO503 := Aside0.mk (Kd.R_below (by (with_reducible repeat (first|apply rA|apply rN|apply rD)); exact HO503.out) hb)
              have HO506 := Aside0.mk (Kd.R_lower (Kd.R_new' (Kd.R_new' (Kd.R_new' ho0 (Kd.R_lt (by (with_reducible repeat (first|apply rA|apply rN|apply rD)); exact HO_6.out))) (Kd.R_lt (by (with_reducible repeat (first|apply rA|apply rN|apply rD)); exact HO_9.out))) (Kd.R_lt (by (with_reducible repeat (first|apply rA|apply rN|apply rD)); exact HO492.out))) (below_size hB))
              replace HO_6 := Aside0.mk (Kd.R_elder' (by (with_reducible repeat (first|apply rA|apply rN|apply rD)); exact HO_6.out) (Kd.R_base ho0) hb)
              replace HO_9 := Aside0.mk (Kd.R_elder' (by (with_reducible repeat (first|apply rA|apply rN|apply rD)); exact HO_9.out) (Kd.R_base ho0) hb)
              replace HO492 := Aside0.mk (Kd.R_elder' (by (with_reducible repeat (first|apply rA|apply rN|apply rD)); exact HO492.out) (Kd.R_base ho0) hb)
              replace BK397 := Aside0.mk (blk_below (g := gb397) (by (with_reducible repeat (first | refine bN ?_ _|refine bD ?_|refine bA ?_ _)); exact BK397.out) hb)
              replace BK398 := Aside0.mk (blk_below (g := gb398) (by (with_reducible repeat (first | refine bN ?_ _|refine bD ?_|refine bA ?_ _)); exact BK398.out) hb)
              replace BK439 := Aside0.mk (blk_below (g := gb439) (by (with_reducible repeat (first | refine bN ?_ _|refine bD ?_|refine bA ?_ _)); exact BK439.out) hb)
              replace BK447 := Aside0.mk (blk_below (g := gb447) (by (with_reducible repeat (first | refine bN ?_ _|refine bD ?_|refine bA ?_ _)); exact BK447.out) hb)
              replace HB := Aside0.mk (below_step hB hb)
              (try clear hb)
              (try clear hb2)
              (try clear hk)
              (try clear hi)
              (try clear ho0)
              refine hK.out _ _ ⟨(blk_cell BK397.out 0).trans rfl, (blk_cell BK397.out 1).trans rfl, (blk_cell BK397.out 2).trans rfl, (blk_cell BK397.out 3).trans rfl, (blk_cell BK397.out 4).trans rfl, (blk_cell BK397.out 5).trans rfl, (blk_cell BK397.out 6).trans rfl, (blk_cell BK397.out 7).trans rfl, (blk_cell BK398.out 0).trans rfl, (blk_cell BK398.out 1).trans rfl, (blk_cell BK398.out 2).trans rfl⟩ (fun hHeld => ?_)
              clear hK K
              refine norm_ (a' := ?_) ?_ ?_
              rotate_left
              ·show Act.put _ (some 79) _ = _
               simp only [Act.put, sT, sZ, sS, i64_w, i32_w]
               rfl
              refine pure_ (i := 5) (N := some 13) (v := ?_) (a' := ?_) (tf 6 0) rfl rfl (by kernel_rfl) (fun _ _ _ h => h) (Or.inl ⟨by rfl, ?_⟩) ?_ ?_
              rotate_left; ·intro w'; go_simp; with_reducible rfl
              rotate_left; ·simp only [Act.put, sT, sZ, sS, i64_w, i32_w]; rfl
              refine done_ (by kernel_rfl) ?_
              obtain ⟨Ao119, co119, eo119⟩ := Kd.R_slice HO506.out
              subst eo119
              try go_wp2_with (first | ((with_reducible refine gate_callee (f := 10) rfl ?_); refine goesL_ (some 82) rfl rfl Tryd.func10 (by kernel_rfl) rfl #[.slice Ao119 t504.length co119, .slice Ao63 t422.length co63] rfl mA ?_; (with_reducible refine (laws_eqAttrS.calls kj30 _ _ t504 _ _ t422 true _ ?side1 ?side2 ?side3 ?side4 A93.out).mono ?_); (case side1 => repeat (first | exact (Kd.R_reads' HO506.out).2.2 | (with_reducible refine Kd.C_alloc ?_ _) | (with_reducible refine Kd.C_drewN ?_ _) | (with_reducible refine Kd.C_drew ?_))); (case side2 => exact (Kd.R_reads' HO506.out).2.1); (case side3 => repeat (first | exact (Kd.R_reads' HO_6.out).2.2 | (with_reducible refine Kd.C_alloc ?_ _) | (with_reducible refine Kd.C_drewN ?_ _) | (with_reducible refine Kd.C_drew ?_))); (case side4 => exact (Kd.R_reads' HO_6.out).2.1); rintro e w120 ⟨rfl, hb⟩; refine ⟨_, rfl, ?_⟩; replace HO_6 := Aside0.mk (Kd.R_below (by (with_reducible repeat (first|apply rA|apply rN|apply rD)); exact HO_6.out) hb); replace HO_9 := Aside0.mk (Kd.R_below (by (with_reducible repeat (first|apply rA|apply rN|apply rD)); exact HO_9.out) hb); replace HO_448001 := Aside0.mk (Kd.R_below (by (with_reducible repeat (first|apply rA|apply rN|apply rD)); exact HO_448001.out) hb); replace HO_448002 := Aside0.mk (Kd.R_below (by (with_reducible repeat (first|apply rA|apply rN|apply rD)); exact HO_448002.out) hb); replace HO489 := Aside0.mk (Kd.R_below (by (with_reducible repeat (first|apply rA|apply rN|apply rD)); exact HO489.out) hb); replace HO492 := Aside0.mk (Kd.R_below (by (with_reducible repeat (first|apply rA|apply rN|apply rD)); exact HO492.out) hb); replace HO495 := Aside0.mk (Kd.R_below (by (with_reducible repeat (first|apply rA|apply rN|apply rD)); exact HO495.out) hb); replace HO500 := Aside0.mk (Kd.R_below (by (with_reducible repeat (first|apply rA|apply rN|apply rD)); exact HO500.out) hb); replace HO503 := Aside0.mk (Kd.R_below (by (with_reducible repeat (first|apply rA|apply rN|apply rD)); exact HO503.out) hb); replace HO506 := Aside0.mk (Kd.R_below (by (with_reducible repeat (first|apply rA|apply rN|apply rD)); exact HO506.out) hb); replace BK397 := Aside0.mk (blk_below (g := gb397) (by (with_reducible repeat (first | refine bN ?_ _|refine bD ?_|refine bA ?_ _)); exact BK397.out) hb); replace BK398 := Aside0.mk (blk_below (g := gb398) (by (with_reducible repeat (first | refine bN ?_ _|refine bD ?_|refine bA ?_ _)); exact BK398.out) hb); replace BK439 := Aside0.mk (blk_below (g := gb439) (by (with_reducible repeat (first | refine bN ?_ _|refine bD ?_|refine bA ?_ _)); exact BK439.out) hb); replace BK447 := Aside0.mk (blk_below (g := gb447) (by (with_reducible repeat (first | refine bN ?_ _|refine bD ?_|refine bA ?_ _)); exact BK447.out) hb); replace HB := Aside0.mk (below_step hB hb); (try clear hb); (try clear hb2); (try clear hk); (try clear hi)) | ((with_reducible refine gate_callee (f := 16) rfl ?_); refine goesL_ (some 86) rfl rfl Tryd.func16 (by kernel_rfl) rfl #[.slice Ao62 t481.length co62, .int .i64 1] rfl (by (try simp only [List.map_toArray, List.map_cons, List.map_nil]); first | done | (rw [show t481.length = t448.length from (Kd.R_reads' HO_9.out).1.symm] <;> rfl) | rfl | (simp only [List.length_drop, List.length_take]; rfl)) ?_; (with_reducible refine (laws_heldAttrS.calls kj30 _ _ t481 1 t508 _ ?side1 ?side2 A95.out).mono ?_); (case side1 => repeat (first | exact (Kd.R_reads' HO_9.out).2.2 | (with_reducible refine Kd.C_alloc ?_ _) | (with_reducible refine Kd.C_drewN ?_ _) | (with_reducible refine Kd.C_drew ?_))); (case side2 => rw [show t481.length = t448.length from (Kd.R_reads' HO_9.out).1.symm]; exact (Kd.R_reads' HO_9.out).2.1); rintro e w121 ⟨rfl, hb⟩; refine ⟨_, rfl, ?_⟩; replace HO_6 := Aside0.mk (Kd.R_below (by (with_reducible repeat (first|apply rA|apply rN|apply rD)); exact HO_6.out) hb); replace HO_9 := Aside0.mk (Kd.R_below (by (with_reducible repeat (first|apply rA|apply rN|apply rD)); exact HO_9.out) hb); replace HO_448001 := Aside0.mk (Kd.R_below (by (with_reducible repeat (first|apply rA|apply rN|apply rD)); exact HO_448001.out) hb); replace HO_448002 := Aside0.mk (Kd.R_below (by (with_reducible repeat (first|apply rA|apply rN|apply rD)); exact HO_448002.out) hb); replace HO489 := Aside0.mk (Kd.R_below (by (with_reducible repeat (first|apply rA|apply rN|apply rD)); exact HO489.out) hb); replace HO492 := Aside0.mk (Kd.R_below (by (with_reducible repeat (first|apply rA|apply rN|apply rD)); exact HO492.out) hb); replace HO495 := Aside0.mk (Kd.R_below (by (with_reducible repeat (first|apply rA|apply rN|apply rD)); exact HO495.out) hb); replace HO500 := Aside0.mk (Kd.R_below (by (with_reducible repeat (first|apply rA|apply rN|apply rD)); exact HO500.out) hb); replace HO503 := Aside0.mk (Kd.R_below (by (with_reducible repeat (first|apply rA|apply rN|apply rD)); exact HO503.out) hb); replace HO506 := Aside0.mk (Kd.R_below (by (with_reducible repeat (first|apply rA|apply rN|apply rD)); exact HO506.out) hb); replace BK397 := Aside0.mk (blk_below (g := gb397) (by (with_reducible repeat (first | refine bN ?_ _|refine bD ?_|refine bA ?_ _)); exact BK397.out) hb); replace BK398 := Aside0.mk (blk_below (g := gb398) (by (with_reducible repeat (first | refine bN ?_ _|refine bD ?_|refine bA ?_ _)); exact BK398.out) hb); replace BK439 := Aside0.mk (blk_below (g := gb439) (by (with_reducible repeat (first | refine bN ?_ _|refine bD ?_|refine bA ?_ _)); exact BK439.out) hb); replace BK447 := Aside0.mk (blk_below (g := gb447) (by (with_reducible repeat (first | refine bN ?_ _|refine bD ?_|refine bA ?_ _)); exact BK447.out) hb); replace HB := Aside0.mk (below_step hB hb); (try clear hb); (try clear hb2); (try clear hk); (try clear hi)))
              go_ret
              exact ⟨rE, hB⟩
             ·rw [if_neg c109] at H
              exact absurd H (by simp)
           ·rw [if_neg c94] at H
            exact absurd H (by simp)
          ·rw [if_neg c89] at H
           exact absurd H (by simp)
     ·rw [if_neg c28] at H
      exact absurd H (by simp)
    ·rw [if_neg c25] at H
     exact absurd H (by simp)
   ·rw [if_neg c22] at H
    exact absurd H (by simp)
end Go.Proofs.YtdbinpeglamnnaaDoor.PI
