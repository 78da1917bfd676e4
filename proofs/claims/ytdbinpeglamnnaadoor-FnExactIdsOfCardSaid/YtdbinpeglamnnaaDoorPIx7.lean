-- Written by the session's program hprint.py, over the kit's print program. Lean checks it.
import Derived.Test.YtdbinpeglamnnaaDoorPIx0
import Derived.Test.YtdbinpeglamnnaaDoorPIx6
namespace Go.Proofs.YtdbinpeglamnnaaDoor.PI
open Go.RowKit Go.Proofs.YtdbinpeglamnnaaDoorW.PrintWords Go.Proofs.YtdbinpeglamnnaaDoorW.PrintLast Go.Proofs.YtdbinpeglamnnaaDoorW.PrintMore
attribute [local go_sem] max2_int min2_int max_two min_two max_three min_three max_four min_four   -- for this text's walks alone
set_option linter.unusedVariables false
set_option linter.unusedSimpArgs false
set_option maxHeartbeats 8000000
set_option maxRecDepth 100000

/-! ### impl_idsOf: function 28 -/
def impl_idsOf.l0 : Nat → List (S64) → List (S64) → Int → Int → Int → ByteArray → ByteArray → ByteArray → List (S89) → List (S64) → List (S38) → ByteArray → ByteArray → List (S92) → List (S85) → Option ((List (S64)))
 | 0, _, _, _, _, _, _, _, _, _, _, _, _, _, _, _ => none
 | k + 1, x5, x12, x13, x14, x273000, x273001, x273002, x273003, x273004, x273005, x273006, x273007, x274000, x274001, x274002 => if x14 < x13 then (if 0 ≤ x14 then (if x14 < (x12.length : Int) then ((impl_JoinName.f k x273001 x273002).bind fun t279 => ((impl_JoinName.f k ((rd_T64 x12 x14).f0) ((rd_T64 x12 x14).f1)).bind fun t280 => ((impl_DefOf.f x274002 t279 t280).bind fun bt281 => (if bt281.2.2.2.2.2 = true then (if bt281.2.2.1 = true then (if x273000 = 1 then (if x5.length < 2199023255552 then (impl_idsOf.l0 k (x5 ++ [(⟨(rd_T64 x12 x14).f0, (rd_T64 x12 x14).f1, (rd_T64 x12 x14).f2, (rd_T64 x12 x14).f3⟩ : S64)]) x12 x13 (wrap64 (x14 + 1)) x273000 x273001 x273002 x273003 x273004 x273005 x273006 x273007 x274000 x274001 x274002) else (none)) else (impl_idsOf.l0 k x5 x12 x13 (wrap64 (x14 + 1)) x273000 x273001 x273002 x273003 x273004 x273005 x273006 x273007 x274000 x274001 x274002)) else (impl_idsOf.l0 k x5 x12 x13 (wrap64 (x14 + 1)) x273000 x273001 x273002 x273003 x273004 x273005 x273006 x273007 x274000 x274001 x274002)) else (impl_idsOf.l0 k x5 x12 x13 (wrap64 (x14 + 1)) x273000 x273001 x273002 x273003 x273004 x273005 x273006 x273007 x274000 x274001 x274002))))) else (none)) else (none)) else (some x5)
def impl_idsOf.f (k : Nat) (a0_0 : Int) (a0_1 : ByteArray) (a0_2 : ByteArray) (a0_3 : ByteArray) (l0_4 : List (S89)) (l0_5 : List (S64)) (l0_6 : List (S38)) (a0_7 : ByteArray) (a1_0 : ByteArray) (l1_1 : List (S92)) (l1_2 : List (S85)) : Option ((List (S64))) := impl_idsOf.l0 k (([] : List (S64))) l0_5 (l0_5.length : Int) 0 a0_0 a0_1 a0_2 a0_3 l0_4 l0_5 l0_6 a0_7 a1_0 l1_1 l1_2
def impl_idsOf.T5 : Bool × List (List Nat × List Nat) := (true, [([], []), ([0], [0]), ([], []), ([2], [2]), ([], []), ([4], [4]), ([3, 5], [3, 5]), ([], []), ([7], [7]), ([], []), ([9], [9]), ([8, 10, 6], [8, 10]), ([1, 6, 11, 11], [1, 6, 11]), ([12], [12]), ([13], [13]), ([13], [13]), ([], []), ([16, 14, 12, 0, 1, 2, 3, 4, 5, 6, 7, 8, 9, 10, 11, 12, 13, 14, 16], [14, 16]), ([15, 17, 0, 1, 2, 3, 4, 5, 6, 7, 8, 9, 10, 11, 12, 13, 14, 15, 16, 17], [15])])
def impl_idsOf.B5 : List Nat := [0, 1, 0, 4, 0, 16, 60, 0, 128, 0, 512, 2044, 4095, 8191, 16383, 16383, 0, 98303, 262143]
theorem impl_idsOf.tab5 : rtab .any (opsOf Tryd.f28 5) = impl_idsOf.T5 := by kernel_rfl
theorem impl_idsOf.bits5 : waitsOk impl_idsOf.T5.2 impl_idsOf.B5 = true := by kernel_rfl
theorem impl_idsOf.calls (k : Nat) (a0_0 : Int) (a0_1 : ByteArray) (a0_2 : ByteArray) (a0_3 : ByteArray) (A0_4 : Option Addr) (c0_4 : Nat) (l0_4 : List (S89)) (A0_5 : Option Addr) (c0_5 : Nat) (l0_5 : List (S64)) (A0_6 : Option Addr) (c0_6 : Nat) (l0_6 : List (S38)) (a0_7 : ByteArray) (a1_0 : ByteArray) (A1_1 : Option Addr) (c1_1 : Nat) (l1_1 : List (S92)) (A1_2 : Option Addr) (c1_2 : Nat) (l1_2 : List (S85)) (r : List (S64)) (w : World) (hr0_4 : Kd.C k89 w A0_4 l0_4.length l0_4) (hc0_4 : l0_4.length ≤ c0_4) (hr0_5 : Kd.C k64 w A0_5 l0_5.length l0_5) (hc0_5 : l0_5.length ≤ c0_5) (hr0_6 : Kd.C k38 w A0_6 l0_6.length l0_6) (hc0_6 : l0_6.length ≤ c0_6) (hr1_1 : Kd.C k92 w A1_1 l1_1.length l1_1) (hc1_1 : l1_1.length ≤ c1_1) (hr1_2 : Kd.C k85 w A1_2 l1_2.length l1_2) (hc1_2 : l1_2.length ≤ c1_2) (hTab : Tabs w) (h : impl_idsOf.f k a0_0 a0_1 a0_2 a0_3 l0_4 l0_5 l0_6 a0_7 a1_0 l1_1 l1_2 = some r) :
  Calls Tryd.prog 28 #[.agg #[.int .i64 a0_0, .string a0_1, .string a0_2, .string a0_3, .slice A0_4 l0_4.length c0_4, .slice A0_5 l0_5.length c0_5, .slice A0_6 l0_6.length c0_6, .string a0_7], .agg #[.string a1_0, .slice A1_1 l1_1.length c1_1, .slice A1_2 l1_2.length c1_2]] w fun e w' => ∃ v0_ : Value, e = .returned (v0_) ∧ Kd.R k64 64 w' w.heap.size (fun _ => True) v0_ r ∧ Below w.heap.size w w' := by
 have HT := Aside0.mk hTab
 clear hTab
 have hu38 := Tryd.underlying38
 have hu43 := Tryd.underlying43
 have hu64 := Tryd.underlying64
 have hu85 := Tryd.underlying85
 have HR0_4 := Aside0.mk hr0_4
 have HC0_4 := Aside0.mk hc0_4
 clear hr0_4 hc0_4
 have HR0_5 := Aside0.mk hr0_5
 have HC0_5 := Aside0.mk hc0_5
 clear hr0_5 hc0_5
 have HR0_6 := Aside0.mk hr0_6
 have HC0_6 := Aside0.mk hc0_6
 clear hr0_6 hc0_6
 have HR1_1 := Aside0.mk hr1_1
 have HC1_1 := Aside0.mk hc1_1
 clear hr1_1 hc1_1
 have HR1_2 := Aside0.mk hr1_2
 have HC1_2 := Aside0.mk hc1_2
 clear hr1_2 hc1_2
 have HB := Aside0.mk (Below.refl w.heap.size w)
 have H : (impl_idsOf.l0 k (([] : List (S64))) l0_5 (l0_5.length : Int) 0 a0_0 a0_1 a0_2 a0_3 l0_4 l0_5 l0_6 a0_7 a1_0 l1_1 l1_2) = some r := h
 clear h
 obtain ⟨y274, hy274⟩ : ∃ y_ : List (S64), y_ = (([] : List (S64))) := ⟨_, rfl⟩
 replace H : (impl_idsOf.l0 k y274 l0_5 (l0_5.length : Int) 0 a0_0 a0_1 a0_2 a0_3 l0_4 l0_5 l0_6 a0_7 a1_0 l1_1 l1_2) = some r := by first | (rw [hy274]; with_reducible exact H) | (have H2_ := (Option.bind_some _ _).symm.trans H; rw [hy274]; with_reducible exact H2_) | (have H2_ := (Option.bind_some _ _).symm.trans H; with_reducible exact H2_) | with_reducible exact H | (rw [hy274]; exact H) | exact H
 have Ny274 := Aside0.mk hy274
 clear hy274
 have H' := Aside0.mk H
 clear H
 go_enter Tryd.func28, Tryd.ntmps28
 go_wp2_with (first | ((with_reducible refine gate_dst (N := 2) rfl ?_); refine box_event ?hg (N := 2) ?hd (cs := #[.int .i64 a0_0, .string a0_1, .string a0_2, .string a0_3, .slice A0_4 l0_4.length c0_4, .slice A0_5 l0_5.length c0_5, .slice A0_6 l0_6.length c0_6, .string a0_7]) (t := 38) ?hr ?_; (case hd => rfl); (case hg => rfl); (case hr => first | (go_simp; done) | (go_simp; rfl)); intro gb272 hg w3 hbox hb; have BK272 := Aside0.mk (hbox); have GW272 := Aside0.mk ((by rw [hg]; exact (below_size hB) : w.heap.size ≤ gb272)); have GE272 := Aside0.mk ((by rw [hg]; exact (below_size hB) : w.heap.size ≤ gb272)); replace HB := Aside0.mk (below_step hB hb); clear hb hbox hg) | ((with_reducible refine gate_dst (N := 3) rfl ?_); refine box_event ?hg (N := 3) ?hd (cs := #[.string a1_0, .slice A1_1 l1_1.length c1_1, .slice A1_2 l1_2.length c1_2]) (t := 43) ?hr ?_; (case hd => rfl); (case hg => rfl); (case hr => first | (go_simp; done) | (go_simp; rfl)); intro gb273 hg w4 hbox hb; have BK273 := Aside0.mk (hbox); have GW273 := Aside0.mk ((by rw [hg]; exact (below_size hB) : w.heap.size ≤ gb273)); have GE273 := Aside0.mk ((by rw [hg]; exact (below_size hB) : w.heap.size ≤ gb273)); replace HB := Aside0.mk (below_step hB hb); have NB272_273 := Aside0.mk ((by rw [hg]; exact Nat.ne_of_lt (blk_lt (g := gb272) (by (with_reducible repeat (first | refine bN ?_ _|refine bD ?_|refine bA ?_ _)); exact BK272.out)) : gb272 ≠ gb273)); have NB273_272 := Aside0.mk ((by rw [hg]; exact Nat.ne_of_gt (blk_lt (g := gb272) (by (with_reducible repeat (first | refine bN ?_ _|refine bD ?_|refine bA ?_ _)); exact BK272.out)) : gb273 ≠ gb272)); replace BK272 := Aside0.mk (blk_below (g := gb272) (by (with_reducible repeat (first | refine bN ?_ _|refine bD ?_|refine bA ?_ _)); exact BK272.out) hb); clear hb hbox hg) | ((with_reducible refine gate_dst (N := 10) rfl ?_); refine Kd.R_lit k64 _ 64 ?hg (N := 10) ?hd (xs := ([] : List (S64))) (inner := []) (ok := fun _ => True) (okp := fun _ => True) ?hr ?hp (fun _ hk => hk) trivial (Below.refl _ _) (Nat.le_refl _) (by simp) ?_; (case hd => rfl); (case hg => rfl); (case hr => first | (go_simp; done) | (go_simp; rfl)); (case hp => exact (Reps.none _ _)); intro v275 w5 ho6 hb hg_ hnew_; clear hg_ hnew_; (first | rw [← Ny274.out] at ho6 | (simp only [Int.reduceToNat] at ho6; rw [← Ny274.out] at ho6)); have HO276 := Aside0.mk (Kd.R_lower ho6 (below_size hB)); replace BK272 := Aside0.mk (blk_below (g := gb272) (by (with_reducible repeat (first | refine bN ?_ _|refine bD ?_|refine bA ?_ _)); exact BK272.out) hb); replace BK273 := Aside0.mk (blk_below (g := gb273) (by (with_reducible repeat (first | refine bN ?_ _|refine bD ?_|refine bA ?_ _)); exact BK273.out) hb); replace HB := Aside0.mk (below_step hB hb); clear hb ho6; have hnb7 := NB272_273.out; have hnc7 := NB273_272.out; obtain ⟨hcz8_0, hcz8_1, hcz8_2, hcz8_3, hcz8_4, hcz8_5, hcz8_6, hcz8_7⟩ := bc8 BK272.out; obtain ⟨hfz8_0, hfz8_1, hfz8_2, hfz8_3, hfz8_4, hfz8_5, hfz8_6, hfz8_7⟩ := bf8 BK272.out))
 go_loopg [5, 14] k (fun kq v5 v14 w' => ∃ (x5_1 : List (S64)) (x14_1 : Int), v14 = .int .i64 x14_1 ∧ Aside0 (impl_idsOf.l0 kq x5_1 l0_5 (l0_5.length : Int) x14_1 a0_0 a0_1 a0_2 a0_3 l0_4 l0_5 l0_6 a0_7 a1_0 l1_1 l1_2 = some r) ∧ Aside0 (kq ≤ k) ∧ Aside0 (Kd.R k64 64 w' w.heap.size (fun _ => True) v5 x5_1) ∧ Aside0 (w'.heap[gb272]? = some (.cells #[.int .i64 a0_0, .string a0_1, .string a0_2, .string a0_3, (.slice A0_4 l0_4.length c0_4), (.slice A0_5 l0_5.length c0_5), (.slice A0_6 l0_6.length c0_6), .string a0_7] 38 (0, 0))) ∧ Aside0 (w'.heap[gb273]? = some (.cells #[.string a1_0, (.slice A1_1 l1_1.length c1_1), (.slice A1_2 l1_2.length c1_2)] 43 (0, 0))) ∧ Aside0 (Below w.heap.size w w'))
 case atStart => exact ⟨(y274), (0), rG, H', ⟨Nat.le_refl _⟩, ⟨by (with_reducible repeat (first|apply rA|apply rN|apply rD)); exact HO276.out⟩, ⟨by (with_reducible repeat (first | refine bN ?_ _|refine bD ?_|refine bA ?_ _)); exact BK272.out⟩, ⟨by (with_reducible repeat (first | refine bN ?_ _|refine bD ?_|refine bA ?_ _)); exact BK273.out⟩, ⟨hB⟩⟩
 case round =>
  clear H'
  try clear hcz8_0 hcz8_1 hcz8_2 hcz8_3 hcz8_4 hcz8_5 hcz8_6 hcz8_7
  try clear hfz8_0 hfz8_1 hfz8_2 hfz8_3 hfz8_4 hfz8_5 hfz8_6 hfz8_7
  obtain ⟨x5_1, x14_1, rfl, HA, HK1, HO_5, BK272, BK273, HB⟩ := hrel
  cases gk with
  | zero => exact absurd HA.out (by simp [impl_idsOf.l0])
  | succ k1 =>
   have H := HA.out
   clear HA
   simp only [impl_idsOf.l0] at H
   by_cases c9 : x14_1 < (l0_5.length : Int)
   ·rw [if_pos c9] at H
    have c9b0 : decide (x14_1 < (l0_5.length : Int)) = true := decide_eq_true c9
    clear c9
    obtain ⟨c10, H⟩ := if_som H
    have c10b0 : decide (0 ≤ x14_1) = true := decide_eq_true c10
    clear c10
    obtain ⟨c11, H⟩ := if_som H
    have c11b0 : decide (x14_1 < (l0_5.length : Int)) = true := decide_eq_true c11
    clear c11
    replace H := Option.bind_eq_some_iff.mp H
    obtain ⟨t279, A120, H⟩ := H
    try dsimp only at H
    have A12 := Aside0.mk A120
    clear A120
    replace H := Option.bind_eq_some_iff.mp H
    obtain ⟨t280, A130, H⟩ := H
    try dsimp only at H
    have A13 := Aside0.mk A130
    clear A130
    replace H := Option.bind_eq_some_iff.mp H
    obtain ⟨⟨t281, t282, t283, t284, t285, t286⟩, A140, H⟩ := H
    try dsimp only at H
    have A14 := Aside0.mk A140
    clear A140
    have p277 : 0 ≤ (x14_1 : Int) := odt
    have q277 : x14_1 < (l0_5.length : Int) := odt
    obtain ⟨ad277, e277, hx277_0, hx277_1, hx277_2, hx277_3⟩ := at_T64 HR0_5.out x14_1 p277 q277
    cases e277
    replace hx277_0 := pw_cell_below HB.out hx277_0
    replace hx277_1 := pw_cell_below HB.out hx277_1
    replace hx277_2 := pw_cell_below HB.out hx277_2
    replace hx277_3 := pw_cell_below HB.out hx277_3
    replace p277 := eq_true p277
    replace q277 := eq_true q277
    try go_wp2_with (first | ((with_reducible refine gate_dst (N := 7) rfl ?_); refine box_event ?hg (N := 7) ?hd (cs := #[.string (⟨#[]⟩ : ByteArray), .string (⟨#[]⟩ : ByteArray), .string (⟨#[]⟩ : ByteArray), .string (⟨#[]⟩ : ByteArray)]) (t := 64) ?hr ?_; (case hd => rfl); (case hg => rfl); (case hr => first | (go_simp; done) | (go_simp; rfl)); intro gb278 hg w15 hbox hb; replace HO_5 := Aside0.mk (Kd.R_below (Kd.R_elderB (by (with_reducible repeat (first|apply rA|apply rN|apply rD)); exact HO_5.out) gb278 (Nat.le_of_eq hg.symm)) hb); have BK278 := Aside0.mk (hbox); have GW278 := Aside0.mk ((by rw [hg]; exact (below_size hB) : w.heap.size ≤ gb278)); have GE278 := Aside0.mk ((by rw [hg]; exact (below_size hB) : w.heap.size ≤ gb278)); replace HB := Aside0.mk (below_step hB hb); have NB272_278 := Aside0.mk ((by rw [hg]; exact Nat.ne_of_lt (blk_lt (g := gb272) (by (with_reducible repeat (first | refine bN ?_ _|refine bD ?_|refine bA ?_ _)); exact BK272.out)) : gb272 ≠ gb278)); have NB278_272 := Aside0.mk ((by rw [hg]; exact Nat.ne_of_gt (blk_lt (g := gb272) (by (with_reducible repeat (first | refine bN ?_ _|refine bD ?_|refine bA ?_ _)); exact BK272.out)) : gb278 ≠ gb272)); replace BK272 := Aside0.mk (blk_below (g := gb272) (by (with_reducible repeat (first | refine bN ?_ _|refine bD ?_|refine bA ?_ _)); exact BK272.out) hb); have NB273_278 := Aside0.mk ((by rw [hg]; exact Nat.ne_of_lt (blk_lt (g := gb273) (by (with_reducible repeat (first | refine bN ?_ _|refine bD ?_|refine bA ?_ _)); exact BK273.out)) : gb273 ≠ gb278)); have NB278_273 := Aside0.mk ((by rw [hg]; exact Nat.ne_of_gt (blk_lt (g := gb273) (by (with_reducible repeat (first | refine bN ?_ _|refine bD ?_|refine bA ?_ _)); exact BK273.out)) : gb278 ≠ gb273)); replace BK273 := Aside0.mk (blk_below (g := gb273) (by (with_reducible repeat (first | refine bN ?_ _|refine bD ?_|refine bA ?_ _)); exact BK273.out) hb); clear hb hbox hg; have hnb16 := NB278_272.out; have hnc16 := NB272_278.out; have hnb17 := NB278_273.out; have hnc17 := NB273_278.out; obtain ⟨hcz18_0, hcz18_1, hcz18_2, hcz18_3⟩ := bc4 BK278.out; obtain ⟨hfz18_0, hfz18_1, hfz18_2, hfz18_3⟩ := bf4 BK278.out))
    have n0_ : Aside0 (Kd.R k64 64 ((((w15.setCell ⟨gb278, 0, none⟩ (.string ((rd_T64 l0_5 x14_1).f0))).setCell ⟨gb278, 1, none⟩ (.string ((rd_T64 l0_5 x14_1).f1))).setCell ⟨gb278, 2, none⟩ (.string ((rd_T64 l0_5 x14_1).f2))).setCell ⟨gb278, 3, none⟩ (.string ((rd_T64 l0_5 x14_1).f3))) w.heap.size (fun k_ => k_ ≠ gb278) u5 x5_1) := ⟨by (with_reducible repeat (first|apply rA|apply rN|apply rD)); exact Kd.R_mono (Kd.R_far (p := ⟨gb278, 3, none⟩) (Kd.R_far (p := ⟨gb278, 2, none⟩) (Kd.R_far (p := ⟨gb278, 1, none⟩) (Kd.R_far (p := ⟨gb278, 0, none⟩) (Kd.R_mono HO_5.out (fun k_ hk => (⟨hk, hk.2⟩ : _ ∧ k_ ≠ gb278))) (fun _ hk => hk.2) (.string ((rd_T64 l0_5 x14_1).f0))) (fun _ hk => hk.2) (.string ((rd_T64 l0_5 x14_1).f1))) (fun _ hk => hk.2) (.string ((rd_T64 l0_5 x14_1).f2))) (fun _ hk => hk.2) (.string ((rd_T64 l0_5 x14_1).f3))) (fun _ hk => hk.1.2)⟩
    have n1_ : Aside0 (((((w15.setCell ⟨gb278, 0, none⟩ (.string ((rd_T64 l0_5 x14_1).f0))).setCell ⟨gb278, 1, none⟩ (.string ((rd_T64 l0_5 x14_1).f1))).setCell ⟨gb278, 2, none⟩ (.string ((rd_T64 l0_5 x14_1).f2))).setCell ⟨gb278, 3, none⟩ (.string ((rd_T64 l0_5 x14_1).f3))).heap[gb272]? = some (.cells #[.int .i64 a0_0, .string a0_1, .string a0_2, .string a0_3, .slice A0_4 l0_4.length c0_4, .slice (some ad277) l0_5.length c0_5, .slice A0_6 l0_6.length c0_6, .string a0_7] 38 (0, 0))) := ⟨by (with_reducible repeat (first | refine bN ?_ _|refine bD ?_|refine bA ?_ _)); exact pfa4 (hn := NB272_278.out) (by (with_reducible repeat (first | refine bN ?_ _|refine bD ?_|refine bA ?_ _)); exact BK272.out)⟩
    have n2_ : Aside0 (((((w15.setCell ⟨gb278, 0, none⟩ (.string ((rd_T64 l0_5 x14_1).f0))).setCell ⟨gb278, 1, none⟩ (.string ((rd_T64 l0_5 x14_1).f1))).setCell ⟨gb278, 2, none⟩ (.string ((rd_T64 l0_5 x14_1).f2))).setCell ⟨gb278, 3, none⟩ (.string ((rd_T64 l0_5 x14_1).f3))).heap[gb273]? = some (.cells #[.string a1_0, .slice A1_1 l1_1.length c1_1, .slice A1_2 l1_2.length c1_2] 43 (0, 0))) := ⟨by (with_reducible repeat (first | refine bN ?_ _|refine bD ?_|refine bA ?_ _)); exact pfa4 (hn := NB273_278.out) (by (with_reducible repeat (first | refine bN ?_ _|refine bD ?_|refine bA ?_ _)); exact BK273.out)⟩
    have n3_ : Aside0 (((((w15.setCell ⟨gb278, 0, none⟩ (.string ((rd_T64 l0_5 x14_1).f0))).setCell ⟨gb278, 1, none⟩ (.string ((rd_T64 l0_5 x14_1).f1))).setCell ⟨gb278, 2, none⟩ (.string ((rd_T64 l0_5 x14_1).f2))).setCell ⟨gb278, 3, none⟩ (.string ((rd_T64 l0_5 x14_1).f3))).heap[gb278]? = some (.cells #[.string ((rd_T64 l0_5 x14_1).f0), .string ((rd_T64 l0_5 x14_1).f1), .string ((rd_T64 l0_5 x14_1).f2), .string ((rd_T64 l0_5 x14_1).f3)] 64 (0, 0))) := ⟨by (with_reducible repeat (first | refine bN ?_ _|refine bD ?_|refine bA ?_ _)); exact put4 (by (with_reducible repeat (first | refine bN ?_ _|refine bD ?_|refine bA ?_ _)); exact BK278.out)⟩
    have n4_ : Aside0 (Below w.heap.size w ((((w15.setCell ⟨gb278, 0, none⟩ (.string ((rd_T64 l0_5 x14_1).f0))).setCell ⟨gb278, 1, none⟩ (.string ((rd_T64 l0_5 x14_1).f1))).setCell ⟨gb278, 2, none⟩ (.string ((rd_T64 l0_5 x14_1).f2))).setCell ⟨gb278, 3, none⟩ (.string ((rd_T64 l0_5 x14_1).f3)))) := ⟨hB⟩
    (try clear HO_5)
    (try clear BK272)
    (try clear BK273)
    (try clear BK278)
    (try clear HB)
    generalize ((((w15.setCell ⟨gb278, 0, none⟩ (.string ((rd_T64 l0_5 x14_1).f0))).setCell ⟨gb278, 1, none⟩ (.string ((rd_T64 l0_5 x14_1).f1))).setCell ⟨gb278, 2, none⟩ (.string ((rd_T64 l0_5 x14_1).f2))).setCell ⟨gb278, 3, none⟩ (.string ((rd_T64 l0_5 x14_1).f3))) = w19 at n0_ n1_ n2_ n3_ n4_ ⊢
    have HO_5 := n0_
    have BK272 := n1_
    have BK273 := n2_
    have BK278 := n3_
    have HB := n4_
    clear n0_ n1_ n2_ n3_ n4_
    replace HO_5 := Aside0.mk (Kd.R_drew HO_5.out)
    replace BK272 := Aside0.mk (blk_drew BK272.out)
    replace BK273 := Aside0.mk (blk_drew BK273.out)
    replace BK278 := Aside0.mk (blk_drew BK278.out)
    replace HB := Aside0.mk (below_drew1 HB.out)
    refine start_ (n := 19) (S := fun w' => w'.cell? ⟨gb273, 0, none⟩ = some (.string a1_0) ∧ w'.cell? ⟨gb273, 1, none⟩ = some (.slice A1_1 l1_1.length c1_1) ∧ w'.cell? ⟨gb273, 2, none⟩ = some (.slice A1_2 l1_2.length c1_2) ∧ w'.cell? ⟨gb272, 0, none⟩ = some (.int .i64 a0_0) ∧ w'.cell? ⟨gb272, 1, none⟩ = some (.string a0_1) ∧ w'.cell? ⟨gb272, 2, none⟩ = some (.string a0_2) ∧ w'.cell? ⟨gb272, 3, none⟩ = some (.string a0_3) ∧ w'.cell? ⟨gb272, 4, none⟩ = some (.slice A0_4 l0_4.length c0_4) ∧ w'.cell? ⟨gb272, 5, none⟩ = some (.slice (some ad277) l0_5.length c0_5) ∧ w'.cell? ⟨gb272, 6, none⟩ = some (.slice A0_6 l0_6.length c0_6) ∧ w'.cell? ⟨gb272, 7, none⟩ = some (.string a0_7) ∧ w'.cell? ⟨gb278, 0, none⟩ = some (.string ((rd_T64 l0_5 x14_1).f0)) ∧ w'.cell? ⟨gb278, 1, none⟩ = some (.string ((rd_T64 l0_5 x14_1).f1)) ∧ w'.cell? ⟨gb278, 2, none⟩ = some (.string ((rd_T64 l0_5 x14_1).f2)) ∧ w'.cell? ⟨gb278, 3, none⟩ = some (.string ((rd_T64 l0_5 x14_1).f3))) (ds := []) #[false, false, false, false, false, false, false, false, false, false, false, false, false, false, false, false, false, false, false] (by kernel_rfl) rfl rfl ⟨(blk_cell BK273.out 0).trans rfl, (blk_cell BK273.out 1).trans rfl, (blk_cell BK273.out 2).trans rfl, (blk_cell BK272.out 0).trans rfl, (blk_cell BK272.out 1).trans rfl, (blk_cell BK272.out 2).trans rfl, (blk_cell BK272.out 3).trans rfl, (blk_cell BK272.out 4).trans rfl, (blk_cell BK272.out 5).trans rfl, (blk_cell BK272.out 6).trans rfl, (blk_cell BK272.out 7).trans rfl, (blk_cell BK278.out 0).trans rfl, (blk_cell BK278.out 1).trans rfl, (blk_cell BK278.out 2).trans rfl, (blk_cell BK278.out 3).trans rfl⟩ (fun hHeld => ?_); refine with_tabW impl_idsOf.tab5 impl_idsOf.bits5 (fun HT_ HW_ => ?_)
    generalize w19.drew = w20 at HO_5 BK272 BK273 BK278 HB hHeld ⊢
    refine pU 0 19 (tf 1 18) ?_
    refine pU 2 21 #[true, false, true, false, false, false, false, false, false, false, false, false, false, false, false, false, false, false, false] ?_
    refine pU 4 23 #[true, false, true, false, true, false, false, false, false, false, false, false, false, false, false, false, false, false, false] ?_
    refine pU 7 26 #[true, false, true, false, true, false, false, true, false, false, false, false, false, false, false, false, false, false, false] ?_
    refine pU 9 28 #[true, false, true, false, true, false, false, true, false, true, false, false, false, false, false, false, false, false, false] ?_
    refine take_ (i := 1) (N := some 20) (v := ?_) (a' := ?_) #[true, true, true, false, true, false, false, true, false, true, false, false, false, false, false, false, false, false, false] rfl rfl (take_ofW HT_.out HW_.out (by kernel_rfl)) (fun _ _ _ h => h) (Or.inl ⟨by rfl, ?_⟩) hHeld ?_ ?_
    rotate_left
    ·rintro w' ⟨s0, s1, s2, s3, s4, s5, s6, s7, s8, s9, s10, s11, s12, s13, s14⟩
     go_simp
     with_reducible rfl
    rotate_left
    ·simp only [Act.put, sT, sZ, sS, i64_w, i32_w]
     rfl
    refine take_ (i := 3) (N := some 22) (v := ?_) (a' := ?_) #[true, true, true, true, true, false, false, true, false, true, false, false, false, false, false, false, false, false, false] rfl rfl (take_ofW HT_.out HW_.out (by kernel_rfl)) (fun _ _ _ h => h) (Or.inl ⟨by rfl, ?_⟩) hHeld ?_ ?_
    rotate_left
    ·rintro w' ⟨s0, s1, s2, s3, s4, s5, s6, s7, s8, s9, s10, s11, s12, s13, s14⟩
     go_simp
     with_reducible rfl
    rotate_left
    ·simp only [Act.put, sT, sZ, sS, i64_w, i32_w]
     rfl
    refine take_ (i := 5) (N := some 24) (v := ?_) (a' := ?_) #[true, true, true, true, true, true, false, true, false, true, false, false, false, false, false, false, false, false, false] rfl rfl (take_ofW HT_.out HW_.out (by kernel_rfl)) (fun _ _ _ h => h) (Or.inl ⟨by rfl, ?_⟩) hHeld ?_ ?_
    rotate_left
    ·rintro w' ⟨s0, s1, s2, s3, s4, s5, s6, s7, s8, s9, s10, s11, s12, s13, s14⟩
     go_simp
     with_reducible rfl
    rotate_left
    ·simp only [Act.put, sT, sZ, sS, i64_w, i32_w]
     rfl
    refine take_ (i := 8) (N := some 27) (v := ?_) (a' := ?_) #[true, true, true, true, true, true, false, true, true, true, false, false, false, false, false, false, false, false, false] rfl rfl (take_ofW HT_.out HW_.out (by kernel_rfl)) (fun _ _ _ h => h) (Or.inl ⟨by rfl, ?_⟩) hHeld ?_ ?_
    rotate_left
    ·rintro w' ⟨s0, s1, s2, s3, s4, s5, s6, s7, s8, s9, s10, s11, s12, s13, s14⟩
     go_simp
     with_reducible rfl
    rotate_left
    ·simp only [Act.put, sT, sZ, sS, i64_w, i32_w]
     rfl
    refine take_ (i := 10) (N := some 29) (v := ?_) (a' := ?_) #[true, true, true, true, true, true, false, true, true, true, true, false, false, false, false, false, false, false, false] rfl rfl (take_ofW HT_.out HW_.out (by kernel_rfl)) (fun _ _ _ h => h) (Or.inl ⟨by rfl, ?_⟩) hHeld ?_ ?_
    rotate_left
    ·rintro w' ⟨s0, s1, s2, s3, s4, s5, s6, s7, s8, s9, s10, s11, s12, s13, s14⟩
     go_simp
     with_reducible rfl
    rotate_left
    ·simp only [Act.put, sT, sZ, sS, i64_w, i32_w]
     rfl
    refine join_ (σ := Nat) 2 (tf 17 2) (fun s_ => [(25, .string t279), (30, .string t280), (31, .tuple #[.agg #[.string t281, .string t282, .bool t283, .bool t284, .string t285], .bool t286]), (8, .pointer (some ⟨s_, 0, none⟩)), (18, .tuple #[.agg #[.string t281, .string t282, .bool t283, .bool t284, .string t285], .bool t286]), (32, .agg #[.string t281, .string t282, .bool t283, .bool t284, .string t285]), (33, .bool t286)]) (fun s_ w' => (w'.cell? ⟨gb273, 0, none⟩ = some (.string a1_0) ∧ w'.cell? ⟨gb273, 1, none⟩ = some (.slice A1_1 l1_1.length c1_1) ∧ w'.cell? ⟨gb273, 2, none⟩ = some (.slice A1_2 l1_2.length c1_2) ∧ w'.cell? ⟨gb272, 0, none⟩ = some (.int .i64 a0_0) ∧ w'.cell? ⟨gb272, 1, none⟩ = some (.string a0_1) ∧ w'.cell? ⟨gb272, 2, none⟩ = some (.string a0_2) ∧ w'.cell? ⟨gb272, 3, none⟩ = some (.string a0_3) ∧ w'.cell? ⟨gb272, 4, none⟩ = some (.slice A0_4 l0_4.length c0_4) ∧ w'.cell? ⟨gb272, 5, none⟩ = some (.slice (some ad277) l0_5.length c0_5) ∧ w'.cell? ⟨gb272, 6, none⟩ = some (.slice A0_6 l0_6.length c0_6) ∧ w'.cell? ⟨gb272, 7, none⟩ = some (.string a0_7) ∧ w'.cell? ⟨gb278, 0, none⟩ = some (.string ((rd_T64 l0_5 x14_1).f0)) ∧ w'.cell? ⟨gb278, 1, none⟩ = some (.string ((rd_T64 l0_5 x14_1).f1)) ∧ w'.cell? ⟨gb278, 2, none⟩ = some (.string ((rd_T64 l0_5 x14_1).f2)) ∧ w'.cell? ⟨gb278, 3, none⟩ = some (.string ((rd_T64 l0_5 x14_1).f3))) ∧ (Kd.R k64 64 w' w.heap.size (fun k_ => k_ ≠ gb278) u5 x5_1) ∧ (w'.heap[gb272]? = some (.cells #[.int .i64 a0_0, .string a0_1, .string a0_2, .string a0_3, .slice A0_4 l0_4.length c0_4, .slice (some ad277) l0_5.length c0_5, .slice A0_6 l0_6.length c0_6, .string a0_7] 38 (0, 0))) ∧ (w'.heap[gb273]? = some (.cells #[.string a1_0, .slice A1_1 l1_1.length c1_1, .slice A1_2 l1_2.length c1_2] 43 (0, 0))) ∧ (w'.heap[gb278]? = some (.cells #[.string ((rd_T64 l0_5 x14_1).f0), .string ((rd_T64 l0_5 x14_1).f1), .string ((rd_T64 l0_5 x14_1).f2), .string ((rd_T64 l0_5 x14_1).f3)] 64 (0, 0))) ∧ (w'.heap[s_]? = some (.cells #[.string (⟨#[]⟩ : ByteArray), .string (⟨#[]⟩ : ByteArray), .bool false, .bool false, .string (⟨#[]⟩ : ByteArray)] 85 (0, 0))) ∧ (w.heap.size ≤ s_) ∧ (w.heap.size ≤ s_) ∧ (gb272 ≠ s_) ∧ (s_ ≠ gb272) ∧ (gb273 ≠ s_) ∧ (s_ ≠ gb273) ∧ (gb278 ≠ s_) ∧ (s_ ≠ gb278) ∧ (Below w.heap.size w w')) ?_ ?_
    rotate_left
    ·intro hCont
     refine two_ (i := 6) (j := 16) (Ni := some 25) (Nj := some 8) (tf 11 8) #[true, true, true, true, true, true, false, true, true, true, true, false, false, false, false, false, true, false, false] rfl rfl rfl rfl (two_of HT_.out (by kernel_rfl)) (by decide) (by decide) (fun K hK => ?_) (fun K hK => ?_)
     ·skip
      refine goes_ Tryd.func50 (by kernel_rfl) rfl #[.string a0_1, .string a0_2] (by rfl) rfl rfl mA ?_
      with_reducible refine (impl_JoinName.calls k1 a0_1 a0_2 t279 _ ?tabs A12.out).mono ?_
      case tabs => first | exact Tabs.below HT.out hB | (repeat (first | exact HT.out | (with_reducible refine Tabs.drewN ?_ _) | (with_reducible refine Tabs.drew ?_) | (with_reducible refine Tabs.alloc ?_ _)))
      rintro e w21 ⟨rfl, hb⟩
      refine ⟨_, rfl, ?_⟩
      replace HO_5 := Aside0.mk (Kd.R_below (by (with_reducible repeat (first|apply rA|apply rN|apply rD)); exact HO_5.out) hb)
      replace BK272 := Aside0.mk (blk_below (g := gb272) (by (with_reducible repeat (first | refine bN ?_ _|refine bD ?_|refine bA ?_ _)); exact BK272.out) hb)
      replace BK273 := Aside0.mk (blk_below (g := gb273) (by (with_reducible repeat (first | refine bN ?_ _|refine bD ?_|refine bA ?_ _)); exact BK273.out) hb)
      replace BK278 := Aside0.mk (blk_below (g := gb278) (by (with_reducible repeat (first | refine bN ?_ _|refine bD ?_|refine bA ?_ _)); exact BK278.out) hb)
      replace HB := Aside0.mk (below_step hB hb)
      (try clear hb)
      (try clear hb2)
      (try clear hk)
      (try clear hi)
      refine hK.out _ _ ⟨(blk_cell BK273.out 0).trans rfl, (blk_cell BK273.out 1).trans rfl, (blk_cell BK273.out 2).trans rfl, (blk_cell BK272.out 0).trans rfl, (blk_cell BK272.out 1).trans rfl, (blk_cell BK272.out 2).trans rfl, (blk_cell BK272.out 3).trans rfl, (blk_cell BK272.out 4).trans rfl, (blk_cell BK272.out 5).trans rfl, (blk_cell BK272.out 6).trans rfl, (blk_cell BK272.out 7).trans rfl, (blk_cell BK278.out 0).trans rfl, (blk_cell BK278.out 1).trans rfl, (blk_cell BK278.out 2).trans rfl, (blk_cell BK278.out 3).trans rfl⟩ (fun hHeld => ?_)
      clear hK K
      refine norm_ (a' := ?_) ?_ ?_
      rotate_left
      ·show Act.put _ (some 25) _ = _
       simp only [Act.put, sT, sZ, sS, i64_w, i32_w]
       rfl
      refine two_ (i := 11) (j := 16) (Ni := some 30) (Nj := some 8) (tf 12 7) #[true, true, true, true, true, true, true, true, true, true, true, false, false, false, false, false, true, false, false] rfl rfl rfl rfl (two_of HT_.out (by kernel_rfl)) (by decide) (by decide) (fun K hK => ?_) (fun K hK => ?_)
      ·skip
       refine goes_ Tryd.func50 (by kernel_rfl) rfl #[.string ((rd_T64 l0_5 x14_1).f0), .string ((rd_T64 l0_5 x14_1).f1)] (by rfl) rfl rfl mA ?_
       with_reducible refine (impl_JoinName.calls k1 ((rd_T64 l0_5 x14_1).f0) ((rd_T64 l0_5 x14_1).f1) t280 _ ?tabs A13.out).mono ?_
       case tabs => first | exact Tabs.below HT.out hB | (repeat (first | exact HT.out | (with_reducible refine Tabs.drewN ?_ _) | (with_reducible refine Tabs.drew ?_) | (with_reducible refine Tabs.alloc ?_ _)))
       rintro e w22 ⟨rfl, hb⟩
       refine ⟨_, rfl, ?_⟩
       replace HO_5 := Aside0.mk (Kd.R_below (by (with_reducible repeat (first|apply rA|apply rN|apply rD)); exact HO_5.out) hb)
       replace BK272 := Aside0.mk (blk_below (g := gb272) (by (with_reducible repeat (first | refine bN ?_ _|refine bD ?_|refine bA ?_ _)); exact BK272.out) hb)
       replace BK273 := Aside0.mk (blk_below (g := gb273) (by (with_reducible repeat (first | refine bN ?_ _|refine bD ?_|refine bA ?_ _)); exact BK273.out) hb)
       replace BK278 := Aside0.mk (blk_below (g := gb278) (by (with_reducible repeat (first | refine bN ?_ _|refine bD ?_|refine bA ?_ _)); exact BK278.out) hb)
       replace HB := Aside0.mk (below_step hB hb)
       (try clear hb)
       (try clear hb2)
       (try clear hk)
       (try clear hi)
       refine hK.out _ _ ⟨(blk_cell BK273.out 0).trans rfl, (blk_cell BK273.out 1).trans rfl, (blk_cell BK273.out 2).trans rfl, (blk_cell BK272.out 0).trans rfl, (blk_cell BK272.out 1).trans rfl, (blk_cell BK272.out 2).trans rfl, (blk_cell BK272.out 3).trans rfl, (blk_cell BK272.out 4).trans rfl, (blk_cell BK272.out 5).trans rfl, (blk_cell BK272.out 6).trans rfl, (blk_cell BK272.out 7).trans rfl, (blk_cell BK278.out 0).trans rfl, (blk_cell BK278.out 1).trans rfl, (blk_cell BK278.out 2).trans rfl, (blk_cell BK278.out 3).trans rfl⟩ (fun hHeld => ?_)
       clear hK K
       refine norm_ (a' := ?_) ?_ ?_
       rotate_left
       ·show Act.put _ (some 30) _ = _
        simp only [Act.put, sT, sZ, sS, i64_w, i32_w]
        rfl
       refine two_ (i := 12) (j := 16) (Ni := some 31) (Nj := some 8) (tf 13 6) #[true, true, true, true, true, true, true, true, true, true, true, true, false, false, false, false, true, false, false] rfl rfl rfl rfl (two_of HT_.out (by kernel_rfl)) (by decide) (by decide) (fun K hK => ?_) (fun K hK => ?_)
       ·skip
        refine goes_ Tryd.func49 (by kernel_rfl) rfl #[.slice A1_2 l1_2.length c1_2, .string t279, .string t280] (by rfl) rfl rfl mA ?_
        with_reducible refine (impl_DefOf.calls _ _ l1_2 t279 t280 t281 t282 t283 t284 t285 t286 _ ?side1 ?side2 A14.out).mono ?_
        (case side1 => repeat (first | exact (Kd.C_below HR1_2.out HB.out) | (with_reducible refine Kd.C_alloc ?_ _) | (with_reducible refine Kd.C_drewN ?_ _) | (with_reducible refine Kd.C_drew ?_)))
        (case side2 => exact HC1_2.out)
        rintro e w23 ⟨rfl, hb⟩
        refine ⟨_, rfl, ?_⟩
        replace HO_5 := Aside0.mk (Kd.R_below (by (with_reducible repeat (first|apply rA|apply rN|apply rD)); exact HO_5.out) hb)
        replace BK272 := Aside0.mk (blk_below (g := gb272) (by (with_reducible repeat (first | refine bN ?_ _|refine bD ?_|refine bA ?_ _)); exact BK272.out) hb)
        replace BK273 := Aside0.mk (blk_below (g := gb273) (by (with_reducible repeat (first | refine bN ?_ _|refine bD ?_|refine bA ?_ _)); exact BK273.out) hb)
        replace BK278 := Aside0.mk (blk_below (g := gb278) (by (with_reducible repeat (first | refine bN ?_ _|refine bD ?_|refine bA ?_ _)); exact BK278.out) hb)
        replace HB := Aside0.mk (below_step hB hb)
        (try clear hb)
        (try clear hb2)
        (try clear hk)
        (try clear hi)
        refine hK.out _ _ ⟨(blk_cell BK273.out 0).trans rfl, (blk_cell BK273.out 1).trans rfl, (blk_cell BK273.out 2).trans rfl, (blk_cell BK272.out 0).trans rfl, (blk_cell BK272.out 1).trans rfl, (blk_cell BK272.out 2).trans rfl, (blk_cell BK272.out 3).trans rfl, (blk_cell BK272.out 4).trans rfl, (blk_cell BK272.out 5).trans rfl, (blk_cell BK272.out 6).trans rfl, (blk_cell BK272.out 7).trans rfl, (blk_cell BK278.out 0).trans rfl, (blk_cell BK278.out 1).trans rfl, (blk_cell BK278.out 2).trans rfl, (blk_cell BK278.out 3).trans rfl⟩ (fun hHeld => ?_)
        clear hK K
        refine norm_ (a' := ?_) ?_ ?_
        rotate_left
        ·show Act.put _ (some 31) _ = _
         simp only [Act.put, sT, sZ, sS, i64_w, i32_w]
         rfl
        refine pU 13 18 (tf 14 5) ?_
        refine pU 14 32 (tf 15 4) ?_
        refine pU 15 33 (tf 16 3) ?_
        refine one_ (i := 16) (N := some 8) (tf 17 2) rfl rfl (one_of HT_.out (by kernel_rfl)) (by decide) (fun K hK => ?_)
        refine box_step ?hg (N := 8) ?hd (cs := #[.string (⟨#[]⟩ : ByteArray), .string (⟨#[]⟩ : ByteArray), .bool false, .bool false, .string (⟨#[]⟩ : ByteArray)]) (t := 85) ?hr ?_; (case hd => rfl); (case hg => rfl); (case hr => first | (go_simp; done) | (go_simp; rfl))
        intro gb287 hg w24 hbox hb
        replace HO_5 := Aside0.mk (Kd.R_below (by (with_reducible repeat (first|apply rA|apply rN|apply rD)); exact HO_5.out) hb)
        have BK287 := Aside0.mk (hbox)
        have GW287 := Aside0.mk ((by rw [hg]; exact (below_size hB) : w.heap.size ≤ gb287))
        have GE287 := Aside0.mk ((by rw [hg]; exact (below_size hB) : w.heap.size ≤ gb287))
        replace HB := Aside0.mk (below_step hB hb)
        have NB272_287 := Aside0.mk ((by rw [hg]; exact Nat.ne_of_lt (blk_lt (g := gb272) (by (with_reducible repeat (first | refine bN ?_ _|refine bD ?_|refine bA ?_ _)); exact BK272.out)) : gb272 ≠ gb287))
        have NB287_272 := Aside0.mk ((by rw [hg]; exact Nat.ne_of_gt (blk_lt (g := gb272) (by (with_reducible repeat (first | refine bN ?_ _|refine bD ?_|refine bA ?_ _)); exact BK272.out)) : gb287 ≠ gb272))
        replace BK272 := Aside0.mk (blk_below (g := gb272) (by (with_reducible repeat (first | refine bN ?_ _|refine bD ?_|refine bA ?_ _)); exact BK272.out) hb)
        have NB273_287 := Aside0.mk ((by rw [hg]; exact Nat.ne_of_lt (blk_lt (g := gb273) (by (with_reducible repeat (first | refine bN ?_ _|refine bD ?_|refine bA ?_ _)); exact BK273.out)) : gb273 ≠ gb287))
        have NB287_273 := Aside0.mk ((by rw [hg]; exact Nat.ne_of_gt (blk_lt (g := gb273) (by (with_reducible repeat (first | refine bN ?_ _|refine bD ?_|refine bA ?_ _)); exact BK273.out)) : gb287 ≠ gb273))
        replace BK273 := Aside0.mk (blk_below (g := gb273) (by (with_reducible repeat (first | refine bN ?_ _|refine bD ?_|refine bA ?_ _)); exact BK273.out) hb)
        have NB278_287 := Aside0.mk ((by rw [hg]; exact Nat.ne_of_lt (blk_lt (g := gb278) (by (with_reducible repeat (first | refine bN ?_ _|refine bD ?_|refine bA ?_ _)); exact BK278.out)) : gb278 ≠ gb287))
        have NB287_278 := Aside0.mk ((by rw [hg]; exact Nat.ne_of_gt (blk_lt (g := gb278) (by (with_reducible repeat (first | refine bN ?_ _|refine bD ?_|refine bA ?_ _)); exact BK278.out)) : gb287 ≠ gb278))
        replace BK278 := Aside0.mk (blk_below (g := gb278) (by (with_reducible repeat (first | refine bN ?_ _|refine bD ?_|refine bA ?_ _)); exact BK278.out) hb)
        clear hb hbox hg
        refine hK.out _ _ ⟨(blk_cell BK273.out 0).trans rfl, (blk_cell BK273.out 1).trans rfl, (blk_cell BK273.out 2).trans rfl, (blk_cell BK272.out 0).trans rfl, (blk_cell BK272.out 1).trans rfl, (blk_cell BK272.out 2).trans rfl, (blk_cell BK272.out 3).trans rfl, (blk_cell BK272.out 4).trans rfl, (blk_cell BK272.out 5).trans rfl, (blk_cell BK272.out 6).trans rfl, (blk_cell BK272.out 7).trans rfl, (blk_cell BK278.out 0).trans rfl, (blk_cell BK278.out 1).trans rfl, (blk_cell BK278.out 2).trans rfl, (blk_cell BK278.out 3).trans rfl⟩ (fun hHeld => ?_)
        clear hK K
        refine norm_ (a' := ?_) ?_ ?_
        rotate_left
        ·show Act.put _ (some 8) _ = _
         simp only [Act.put, sT, sZ, sS, i64_w, i32_w]
         rfl
        exact norm_ (by simp only [putAll, Act.put, List.setIfInBounds_toArray, List.set_cons_zero, List.set_cons_succ]) (hCont (gb287) _ ⟨hHeld, (by (with_reducible repeat (first|apply rA|apply rN|apply rD)); exact HO_5.out), (by (with_reducible repeat (first | refine bN ?_ _|refine bD ?_|refine bA ?_ _)); exact BK272.out), (by (with_reducible repeat (first | refine bN ?_ _|refine bD ?_|refine bA ?_ _)); exact BK273.out), (by (with_reducible repeat (first | refine bN ?_ _|refine bD ?_|refine bA ?_ _)); exact BK278.out), (by (with_reducible repeat (first | refine bN ?_ _|refine bD ?_|refine bA ?_ _)); exact BK287.out), GW287.out, GE287.out, NB272_287.out, NB287_272.out, NB273_287.out, NB287_273.out, NB278_287.out, NB287_278.out, hB⟩)
       ·skip
        refine box_step ?hg (N := 8) ?hd (cs := #[.string (⟨#[]⟩ : ByteArray), .string (⟨#[]⟩ : ByteArray), .bool false, .bool false, .string (⟨#[]⟩ : ByteArray)]) (t := 85) ?hr ?_; (case hd => rfl); (case hg => rfl); (case hr => first | (go_simp; done) | (go_simp; rfl))
        intro gb287 hg w23 hbox hb
        replace HO_5 := Aside0.mk (Kd.R_below (by (with_reducible repeat (first|apply rA|apply rN|apply rD)); exact HO_5.out) hb)
        have BK287 := Aside0.mk (hbox)
        have GW287 := Aside0.mk ((by rw [hg]; exact (below_size hB) : w.heap.size ≤ gb287))
        have GE287 := Aside0.mk ((by rw [hg]; exact (below_size hB) : w.heap.size ≤ gb287))
        replace HB := Aside0.mk (below_step hB hb)
        have NB272_287 := Aside0.mk ((by rw [hg]; exact Nat.ne_of_lt (blk_lt (g := gb272) (by (with_reducible repeat (first | refine bN ?_ _|refine bD ?_|refine bA ?_ _)); exact BK272.out)) : gb272 ≠ gb287))
        have NB287_272 := Aside0.mk ((by rw [hg]; exact Nat.ne_of_gt (blk_lt (g := gb272) (by (with_reducible repeat (first | refine bN ?_ _|refine bD ?_|refine bA ?_ _)); exact BK272.out)) : gb287 ≠ gb272))
        replace BK272 := Aside0.mk (blk_below (g := gb272) (by (with_reducible repeat (first | refine bN ?_ _|refine bD ?_|refine bA ?_ _)); exact BK272.out) hb)
        have NB273_287 := Aside0.mk ((by rw [hg]; exact Nat.ne_of_lt (blk_lt (g := gb273) (by (with_reducible repeat (first | refine bN ?_ _|refine bD ?_|refine bA ?_ _)); exact BK273.out)) : gb273 ≠ gb287))
        have NB287_273 := Aside0.mk ((by rw [hg]; exact Nat.ne_of_gt (blk_lt (g := gb273) (by (with_reducible repeat (first | refine bN ?_ _|refine bD ?_|refine bA ?_ _)); exact BK273.out)) : gb287 ≠ gb273))
        replace BK273 := Aside0.mk (blk_below (g := gb273) (by (with_reducible repeat (first | refine bN ?_ _|refine bD ?_|refine bA ?_ _)); exact BK273.out) hb)
        have NB278_287 := Aside0.mk ((by rw [hg]; exact Nat.ne_of_lt (blk_lt (g := gb278) (by (with_reducible repeat (first | refine bN ?_ _|refine bD ?_|refine bA ?_ _)); exact BK278.out)) : gb278 ≠ gb287))
        have NB287_278 := Aside0.mk ((by rw [hg]; exact Nat.ne_of_gt (blk_lt (g := gb278) (by (with_reducible repeat (first | refine bN ?_ _|refine bD ?_|refine bA ?_ _)); exact BK278.out)) : gb287 ≠ gb278))
        replace BK278 := Aside0.mk (blk_below (g := gb278) (by (with_reducible repeat (first | refine bN ?_ _|refine bD ?_|refine bA ?_ _)); exact BK278.out) hb)
        clear hb hbox hg
        refine hK.out _ _ ⟨(blk_cell BK273.out 0).trans rfl, (blk_cell BK273.out 1).trans rfl, (blk_cell BK273.out 2).trans rfl, (blk_cell BK272.out 0).trans rfl, (blk_cell BK272.out 1).trans rfl, (blk_cell BK272.out 2).trans rfl, (blk_cell BK272.out 3).trans rfl, (blk_cell BK272.out 4).trans rfl, (blk_cell BK272.out 5).trans rfl, (blk_cell BK272.out 6).trans rfl, (blk_cell BK272.out 7).trans rfl, (blk_cell BK278.out 0).trans rfl, (blk_cell BK278.out 1).trans rfl, (blk_cell BK278.out 2).trans rfl, (blk_cell BK278.out 3).trans rfl⟩ (fun hHeld => ?_)
        clear hK K
        refine norm_ (a' := ?_) ?_ ?_
        rotate_left
        ·show Act.put _ (some 8) _ = _
         simp only [Act.put, sT, sZ, sS, i64_w, i32_w]
         rfl
        refine one_ (i := 12) (N := some 31) #[true, true, true, true, true, true, true, true, true, true, true, true, true, false, false, false, true, false, false] rfl rfl (one_of HT_.out (by kernel_rfl)) (by decide) (fun K hK => ?_)
        refine goes_ Tryd.func49 (by kernel_rfl) rfl #[.slice A1_2 l1_2.length c1_2, .string t279, .string t280] (by rfl) rfl rfl mA ?_
        with_reducible refine (impl_DefOf.calls _ _ l1_2 t279 t280 t281 t282 t283 t284 t285 t286 _ ?side1 ?side2 A14.out).mono ?_
        (case side1 => repeat (first | exact (Kd.C_below HR1_2.out HB.out) | (with_reducible refine Kd.C_alloc ?_ _) | (with_reducible refine Kd.C_drewN ?_ _) | (with_reducible refine Kd.C_drew ?_)))
        (case side2 => exact HC1_2.out)
        rintro e w24 ⟨rfl, hb⟩
        refine ⟨_, rfl, ?_⟩
        replace HO_5 := Aside0.mk (Kd.R_below (by (with_reducible repeat (first|apply rA|apply rN|apply rD)); exact HO_5.out) hb)
        replace BK272 := Aside0.mk (blk_below (g := gb272) (by (with_reducible repeat (first | refine bN ?_ _|refine bD ?_|refine bA ?_ _)); exact BK272.out) hb)
        replace BK273 := Aside0.mk (blk_below (g := gb273) (by (with_reducible repeat (first | refine bN ?_ _|refine bD ?_|refine bA ?_ _)); exact BK273.out) hb)
        replace BK278 := Aside0.mk (blk_below (g := gb278) (by (with_reducible repeat (first | refine bN ?_ _|refine bD ?_|refine bA ?_ _)); exact BK278.out) hb)
        replace BK287 := Aside0.mk (blk_below (g := gb287) (by (with_reducible repeat (first | refine bN ?_ _|refine bD ?_|refine bA ?_ _)); exact BK287.out) hb)
        replace HB := Aside0.mk (below_step hB hb)
        (try clear hb)
        (try clear hb2)
        (try clear hk)
        (try clear hi)
        refine hK.out _ _ ⟨(blk_cell BK273.out 0).trans rfl, (blk_cell BK273.out 1).trans rfl, (blk_cell BK273.out 2).trans rfl, (blk_cell BK272.out 0).trans rfl, (blk_cell BK272.out 1).trans rfl, (blk_cell BK272.out 2).trans rfl, (blk_cell BK272.out 3).trans rfl, (blk_cell BK272.out 4).trans rfl, (blk_cell BK272.out 5).trans rfl, (blk_cell BK272.out 6).trans rfl, (blk_cell BK272.out 7).trans rfl, (blk_cell BK278.out 0).trans rfl, (blk_cell BK278.out 1).trans rfl, (blk_cell BK278.out 2).trans rfl, (blk_cell BK278.out 3).trans rfl⟩ (fun hHeld => ?_)
        clear hK K
        refine norm_ (a' := ?_) ?_ ?_
        rotate_left
        ·show Act.put _ (some 31) _ = _
         simp only [Act.put, sT, sZ, sS, i64_w, i32_w]
         rfl
        refine pU 13 18 #[true, true, true, true, true, true, true, true, true, true, true, true, true, true, false, false, true, false, false] ?_
        refine pU 14 32 #[true, true, true, true, true, true, true, true, true, true, true, true, true, true, true, false, true, false, false] ?_
        refine pU 15 33 (tf 17 2) ?_
        exact norm_ (by simp only [putAll, Act.put, List.setIfInBounds_toArray, List.set_cons_zero, List.set_cons_succ]) (hCont (gb287) _ ⟨hHeld, (by (with_reducible repeat (first|apply rA|apply rN|apply rD)); exact HO_5.out), (by (with_reducible repeat (first | refine bN ?_ _|refine bD ?_|refine bA ?_ _)); exact BK272.out), (by (with_reducible repeat (first | refine bN ?_ _|refine bD ?_|refine bA ?_ _)); exact BK273.out), (by (with_reducible repeat (first | refine bN ?_ _|refine bD ?_|refine bA ?_ _)); exact BK278.out), (by (with_reducible repeat (first | refine bN ?_ _|refine bD ?_|refine bA ?_ _)); exact BK287.out), GW287.out, GE287.out, NB272_287.out, NB287_272.out, NB273_287.out, NB287_273.out, NB278_287.out, NB287_278.out, hB⟩)
      ·skip
       refine box_step ?hg (N := 8) ?hd (cs := #[.string (⟨#[]⟩ : ByteArray), .string (⟨#[]⟩ : ByteArray), .bool false, .bool false, .string (⟨#[]⟩ : ByteArray)]) (t := 85) ?hr ?_; (case hd => rfl); (case hg => rfl); (case hr => first | (go_simp; done) | (go_simp; rfl))
       intro gb287 hg w22 hbox hb
       replace HO_5 := Aside0.mk (Kd.R_below (by (with_reducible repeat (first|apply rA|apply rN|apply rD)); exact HO_5.out) hb)
       have BK287 := Aside0.mk (hbox)
       have GW287 := Aside0.mk ((by rw [hg]; exact (below_size hB) : w.heap.size ≤ gb287))
       have GE287 := Aside0.mk ((by rw [hg]; exact (below_size hB) : w.heap.size ≤ gb287))
       replace HB := Aside0.mk (below_step hB hb)
       have NB272_287 := Aside0.mk ((by rw [hg]; exact Nat.ne_of_lt (blk_lt (g := gb272) (by (with_reducible repeat (first | refine bN ?_ _|refine bD ?_|refine bA ?_ _)); exact BK272.out)) : gb272 ≠ gb287))
       have NB287_272 := Aside0.mk ((by rw [hg]; exact Nat.ne_of_gt (blk_lt (g := gb272) (by (with_reducible repeat (first | refine bN ?_ _|refine bD ?_|refine bA ?_ _)); exact BK272.out)) : gb287 ≠ gb272))
       replace BK272 := Aside0.mk (blk_below (g := gb272) (by (with_reducible repeat (first | refine bN ?_ _|refine bD ?_|refine bA ?_ _)); exact BK272.out) hb)
       have NB273_287 := Aside0.mk ((by rw [hg]; exact Nat.ne_of_lt (blk_lt (g := gb273) (by (with_reducible repeat (first | refine bN ?_ _|refine bD ?_|refine bA ?_ _)); exact BK273.out)) : gb273 ≠ gb287))
       have NB287_273 := Aside0.mk ((by rw [hg]; exact Nat.ne_of_gt (blk_lt (g := gb273) (by (with_reducible repeat (first | refine bN ?_ _|refine bD ?_|refine bA ?_ _)); exact BK273.out)) : gb287 ≠ gb273))
       replace BK273 := Aside0.mk (blk_below (g := gb273) (by (with_reducible repeat (first | refine bN ?_ _|refine bD ?_|refine bA ?_ _)); exact BK273.out) hb)
       have NB278_287 := Aside0.mk ((by rw [hg]; exact Nat.ne_of_lt (blk_lt (g := gb278) (by (with_reducible repeat (first | refine bN ?_ _|refine bD ?_|refine bA ?_ _)); exact BK278.out)) : gb278 ≠ gb287))
       have NB287_278 := Aside0.mk ((by rw [hg]; exact Nat.ne_of_gt (blk_lt (g := gb278) (by (with_reducible repeat (first | refine bN ?_ _|refine bD ?_|refine bA ?_ _)); exact BK278.out)) : gb287 ≠ gb278))
       replace BK278 := Aside0.mk (blk_below (g := gb278) (by (with_reducible repeat (first | refine bN ?_ _|refine bD ?_|refine bA ?_ _)); exact BK278.out) hb)
       clear hb hbox hg
       refine hK.out _ _ ⟨(blk_cell BK273.out 0).trans rfl, (blk_cell BK273.out 1).trans rfl, (blk_cell BK273.out 2).trans rfl, (blk_cell BK272.out 0).trans rfl, (blk_cell BK272.out 1).trans rfl, (blk_cell BK272.out 2).trans rfl, (blk_cell BK272.out 3).trans rfl, (blk_cell BK272.out 4).trans rfl, (blk_cell BK272.out 5).trans rfl, (blk_cell BK272.out 6).trans rfl, (blk_cell BK272.out 7).trans rfl, (blk_cell BK278.out 0).trans rfl, (blk_cell BK278.out 1).trans rfl, (blk_cell BK278.out 2).trans rfl, (blk_cell BK278.out 3).trans rfl⟩ (fun hHeld => ?_)
       clear hK K
       refine norm_ (a' := ?_) ?_ ?_
       rotate_left
       ·show Act.put _ (some 8) _ = _
        simp only [Act.put, sT, sZ, sS, i64_w, i32_w]
        rfl
       refine one_ (i := 11) (N := some 30) #[true, true, true, true, true, true, true, true, true, true, true, true, false, false, false, false, true, false, false] rfl rfl (one_of HT_.out (by kernel_rfl)) (by decide) (fun K hK => ?_)
       refine goes_ Tryd.func50 (by kernel_rfl) rfl #[.string ((rd_T64 l0_5 x14_1).f0), .string ((rd_T64 l0_5 x14_1).f1)] (by rfl) rfl rfl mA ?_
       with_reducible refine (impl_JoinName.calls k1 ((rd_T64 l0_5 x14_1).f0) ((rd_T64 l0_5 x14_1).f1) t280 _ ?tabs A13.out).mono ?_
       case tabs => first | exact Tabs.below HT.out hB | (repeat (first | exact HT.out | (with_reducible refine Tabs.drewN ?_ _) | (with_reducible refine Tabs.drew ?_) | (with_reducible refine Tabs.alloc ?_ _)))
       rintro e w23 ⟨rfl, hb⟩
       refine ⟨_, rfl, ?_⟩
       replace HO_5 := Aside0.mk (Kd.R_below (by (with_reducible repeat (first|apply rA|apply rN|apply rD)); exact HO_5.out) hb)
       replace BK272 := Aside0.mk (blk_below (g := gb272) (by (with_reducible repeat (first | refine bN ?_ _|refine bD ?_|refine bA ?_ _)); exact BK272.out) hb)
       replace BK273 := Aside0.mk (blk_below (g := gb273) (by (with_reducible repeat (first | refine bN ?_ _|refine bD ?_|refine bA ?_ _)); exact BK273.out) hb)
       replace BK278 := Aside0.mk (blk_below (g := gb278) (by (with_reducible repeat (first | refine bN ?_ _|refine bD ?_|refine bA ?_ _)); exact BK278.out) hb)
       replace BK287 := Aside0.mk (blk_below (g := gb287) (by (with_reducible repeat (first | refine bN ?_ _|refine bD ?_|refine bA ?_ _)); exact BK287.out) hb)
       replace HB := Aside0.mk (below_step hB hb)
       (try clear hb)
       (try clear hb2)
       (try clear hk)
       (try clear hi)
       refine hK.out _ _ ⟨(blk_cell BK273.out 0).trans rfl, (blk_cell BK273.out 1).trans rfl, (blk_cell BK273.out 2).trans rfl, (blk_cell BK272.out 0).trans rfl, (blk_cell BK272.out 1).trans rfl, (blk_cell BK272.out 2).trans rfl, (blk_cell BK272.out 3).trans rfl, (blk_cell BK272.out 4).trans rfl, (blk_cell BK272.out 5).trans rfl, (blk_cell BK272.out 6).trans rfl, (blk_cell BK272.out 7).trans rfl, (blk_cell BK278.out 0).trans rfl, (blk_cell BK278.out 1).trans rfl, (blk_cell BK278.out 2).trans rfl, (blk_cell BK278.out 3).trans rfl⟩ (fun hHeld => ?_)
       clear hK K
       refine norm_ (a' := ?_) ?_ ?_
       rotate_left
       ·show Act.put _ (some 30) _ = _
        simp only [Act.put, sT, sZ, sS, i64_w, i32_w]
        rfl
       refine one_ (i := 12) (N := some 31) #[true, true, true, true, true, true, true, true, true, true, true, true, true, false, false, false, true, false, false] rfl rfl (one_of HT_.out (by kernel_rfl)) (by decide) (fun K hK => ?_)
       refine goes_ Tryd.func49 (by kernel_rfl) rfl #[.slice A1_2 l1_2.length c1_2, .string t279, .string t280] (by rfl) rfl rfl mA ?_
       with_reducible refine (impl_DefOf.calls _ _ l1_2 t279 t280 t281 t282 t283 t284 t285 t286 _ ?side1 ?side2 A14.out).mono ?_
       (case side1 => repeat (first | exact (Kd.C_below HR1_2.out HB.out) | (with_reducible refine Kd.C_alloc ?_ _) | (with_reducible refine Kd.C_drewN ?_ _) | (with_reducible refine Kd.C_drew ?_)))
       (case side2 => exact HC1_2.out)
       rintro e w24 ⟨rfl, hb⟩
       refine ⟨_, rfl, ?_⟩
       replace HO_5 := Aside0.mk (Kd.R_below (by (with_reducible repeat (first|apply rA|apply rN|apply rD)); exact HO_5.out) hb)
       replace BK272 := Aside0.mk (blk_below (g := gb272) (by (with_reducible repeat (first | refine bN ?_ _|refine bD ?_|refine bA ?_ _)); exact BK272.out) hb)
       replace BK273 := Aside0.mk (blk_below (g := gb273) (by (with_reducible repeat (first | refine bN ?_ _|refine bD ?_|refine bA ?_ _)); exact BK273.out) hb)
       replace BK278 := Aside0.mk (blk_below (g := gb278) (by (with_reducible repeat (first | refine bN ?_ _|refine bD ?_|refine bA ?_ _)); exact BK278.out) hb)
       replace BK287 := Aside0.mk (blk_below (g := gb287) (by (with_reducible repeat (first | refine bN ?_ _|refine bD ?_|refine bA ?_ _)); exact BK287.out) hb)
       replace HB := Aside0.mk (below_step hB hb)
       (try clear hb)
       (try clear hb2)
       (try clear hk)
       (try clear hi)
       refine hK.out _ _ ⟨(blk_cell BK273.out 0).trans rfl, (blk_cell BK273.out 1).trans rfl, (blk_cell BK273.out 2).trans rfl, (blk_cell BK272.out 0).trans rfl, (blk_cell BK272.out 1).trans rfl, (blk_cell BK272.out 2).trans rfl, (blk_cell BK272.out 3).trans rfl, (blk_cell BK272.out 4).trans rfl, (blk_cell BK272.out 5).trans rfl, (blk_cell BK272.out 6).trans rfl, (blk_cell BK272.out 7).trans rfl, (blk_cell BK278.out 0).trans rfl, (blk_cell BK278.out 1).trans rfl, (blk_cell BK278.out 2).trans rfl, (blk_cell BK278.out 3).trans rfl⟩ (fun hHeld => ?_)
       clear hK K
       refine norm_ (a' := ?_) ?_ ?_
       rotate_left
       ·show Act.put _ (some 31) _ = _
        simp only [Act.put, sT, sZ, sS, i64_w, i32_w]
        rfl
       refine pU 13 18 #[true, true, true, true, true, true, true, true, true, true, true, true, true, true, false, false, true, false, false] ?_
       refine pU 14 32 #[true, true, true, true, true, true, true, true, true, true, true, true, true, true, true, false, true, false, false] ?_
       refine pU 15 33 (tf 17 2) ?_
       exact norm_ (by simp only [putAll, Act.put, List.setIfInBounds_toArray, List.set_cons_zero, List.set_cons_succ]) (hCont (gb287) _ ⟨hHeld, (by (with_reducible repeat (first|apply rA|apply rN|apply rD)); exact HO_5.out), (by (with_reducible repeat (first | refine bN ?_ _|refine bD ?_|refine bA ?_ _)); exact BK272.out), (by (with_reducible repeat (first | refine bN ?_ _|refine bD ?_|refine bA ?_ _)); exact BK273.out), (by (with_reducible repeat (first | refine bN ?_ _|refine bD ?_|refine bA ?_ _)); exact BK278.out), (by (with_reducible repeat (first | refine bN ?_ _|refine bD ?_|refine bA ?_ _)); exact BK287.out), GW287.out, GE287.out, NB272_287.out, NB287_272.out, NB273_287.out, NB287_273.out, NB278_287.out, NB287_278.out, hB⟩)
     ·skip
      refine box_step ?hg (N := 8) ?hd (cs := #[.string (⟨#[]⟩ : ByteArray), .string (⟨#[]⟩ : ByteArray), .bool false, .bool false, .string (⟨#[]⟩ : ByteArray)]) (t := 85) ?hr ?_; (case hd => rfl); (case hg => rfl); (case hr => first | (go_simp; done) | (go_simp; rfl))
      intro gb287 hg w21 hbox hb
      replace HO_5 := Aside0.mk (Kd.R_below (by (with_reducible repeat (first|apply rA|apply rN|apply rD)); exact HO_5.out) hb)
      have BK287 := Aside0.mk (hbox)
      have GW287 := Aside0.mk ((by rw [hg]; exact (below_size hB) : w.heap.size ≤ gb287))
      have GE287 := Aside0.mk ((by rw [hg]; exact (below_size hB) : w.heap.size ≤ gb287))
      replace HB := Aside0.mk (below_step hB hb)
      have NB272_287 := Aside0.mk ((by rw [hg]; exact Nat.ne_of_lt (blk_lt (g := gb272) (by (with_reducible repeat (first | refine bN ?_ _|refine bD ?_|refine bA ?_ _)); exact BK272.out)) : gb272 ≠ gb287))
      have NB287_272 := Aside0.mk ((by rw [hg]; exact Nat.ne_of_gt (blk_lt (g := gb272) (by (with_reducible repeat (first | refine bN ?_ _|refine bD ?_|refine bA ?_ _)); exact BK272.out)) : gb287 ≠ gb272))
      replace BK272 := Aside0.mk (blk_below (g := gb272) (by (with_reducible repeat (first | refine bN ?_ _|refine bD ?_|refine bA ?_ _)); exact BK272.out) hb)
      have NB273_287 := Aside0.mk ((by rw [hg]; exact Nat.ne_of_lt (blk_lt (g := gb273) (by (with_reducible repeat (first | refine bN ?_ _|refine bD ?_|refine bA ?_ _)); exact BK273.out)) : gb273 ≠ gb287))
      have NB287_273 := Aside0.mk ((by rw [hg]; exact Nat.ne_of_gt (blk_lt (g := gb273) (by (with_reducible repeat (first | refine bN ?_ _|refine bD ?_|refine bA ?_ _)); exact BK273.out)) : gb287 ≠ gb273))
      replace BK273 := Aside0.mk (blk_below (g := gb273) (by (with_reducible repeat (first | refine bN ?_ _|refine bD ?_|refine bA ?_ _)); exact BK273.out) hb)
      have NB278_287 := Aside0.mk ((by rw [hg]; exact Nat.ne_of_lt (blk_lt (g := gb278) (by (with_reducible repeat (first | refine bN ?_ _|refine bD ?_|refine bA ?_ _)); exact BK278.out)) : gb278 ≠ gb287))
      have NB287_278 := Aside0.mk ((by rw [hg]; exact Nat.ne_of_gt (blk_lt (g := gb278) (by (with_reducible repeat (first | refine bN ?_ _|refine bD ?_|refine bA ?_ _)); exact BK278.out)) : gb287 ≠ gb278))
      replace BK278 := Aside0.mk (blk_below (g := gb278) (by (with_reducible repeat (first | refine bN ?_ _|refine bD ?_|refine bA ?_ _)); exact BK278.out) hb)
      clear hb hbox hg
      refine hK.out _ _ ⟨(blk_cell BK273.out 0).trans rfl, (blk_cell BK273.out 1).trans rfl, (blk_cell BK273.out 2).trans rfl, (blk_cell BK272.out 0).trans rfl, (blk_cell BK272.out 1).trans rfl, (blk_cell BK272.out 2).trans rfl, (blk_cell BK272.out 3).trans rfl, (blk_cell BK272.out 4).trans rfl, (blk_cell BK272.out 5).trans rfl, (blk_cell BK272.out 6).trans rfl, (blk_cell BK272.out 7).trans rfl, (blk_cell BK278.out 0).trans rfl, (blk_cell BK278.out 1).trans rfl, (blk_cell BK278.out 2).trans rfl, (blk_cell BK278.out 3).trans rfl⟩ (fun hHeld => ?_)
      clear hK K
      refine norm_ (a' := ?_) ?_ ?_
      rotate_left
      ·show Act.put _ (some 8) _ = _
       simp only [Act.put, sT, sZ, sS, i64_w, i32_w]
       rfl
      refine one_ (i := 6) (N := some 25) #[true, true, true, true, true, true, true, true, true, true, true, false, false, false, false, false, true, false, false] rfl rfl (one_of HT_.out (by kernel_rfl)) (by decide) (fun K hK => ?_)
      refine goes_ Tryd.func50 (by kernel_rfl) rfl #[.string a0_1, .string a0_2] (by rfl) rfl rfl mA ?_
      with_reducible refine (impl_JoinName.calls k1 a0_1 a0_2 t279 _ ?tabs A12.out).mono ?_
      case tabs => first | exact Tabs.below HT.out hB | (repeat (first | exact HT.out | (with_reducible refine Tabs.drewN ?_ _) | (with_reducible refine Tabs.drew ?_) | (with_reducible refine Tabs.alloc ?_ _)))
      rintro e w22 ⟨rfl, hb⟩
      refine ⟨_, rfl, ?_⟩
      replace HO_5 := Aside0.mk (Kd.R_below (by (with_reducible repeat (first|apply rA|apply rN|apply rD)); exact HO_5.out) hb)
      replace BK272 := Aside0.mk (blk_below (g := gb272) (by (with_reducible repeat (first | refine bN ?_ _|refine bD ?_|refine bA ?_ _)); exact BK272.out) hb)
      replace BK273 := Aside0.mk (blk_below (g := gb273) (by (with_reducible repeat (first | refine bN ?_ _|refine bD ?_|refine bA ?_ _)); exact BK273.out) hb)
      replace BK278 := Aside0.mk (blk_below (g := gb278) (by (with_reducible repeat (first | refine bN ?_ _|refine bD ?_|refine bA ?_ _)); exact BK278.out) hb)
      replace BK287 := Aside0.mk (blk_below (g := gb287) (by (with_reducible repeat (first | refine bN ?_ _|refine bD ?_|refine bA ?_ _)); exact BK287.out) hb)
      replace HB := Aside0.mk (below_step hB hb)
      (try clear hb)
      (try clear hb2)
      (try clear hk)
      (try clear hi)
      refine hK.out _ _ ⟨(blk_cell BK273.out 0).trans rfl, (blk_cell BK273.out 1).trans rfl, (blk_cell BK273.out 2).trans rfl, (blk_cell BK272.out 0).trans rfl, (blk_cell BK272.out 1).trans rfl, (blk_cell BK272.out 2).trans rfl, (blk_cell BK272.out 3).trans rfl, (blk_cell BK272.out 4).trans rfl, (blk_cell BK272.out 5).trans rfl, (blk_cell BK272.out 6).trans rfl, (blk_cell BK272.out 7).trans rfl, (blk_cell BK278.out 0).trans rfl, (blk_cell BK278.out 1).trans rfl, (blk_cell BK278.out 2).trans rfl, (blk_cell BK278.out 3).trans rfl⟩ (fun hHeld => ?_)
      clear hK K
      refine norm_ (a' := ?_) ?_ ?_
      rotate_left
      ·show Act.put _ (some 25) _ = _
       simp only [Act.put, sT, sZ, sS, i64_w, i32_w]
       rfl
      refine one_ (i := 11) (N := some 30) #[true, true, true, true, true, true, true, true, true, true, true, true, false, false, false, false, true, false, false] rfl rfl (one_of HT_.out (by kernel_rfl)) (by decide) (fun K hK => ?_)
      refine goes_ Tryd.func50 (by kernel_rfl) rfl #[.string ((rd_T64 l0_5 x14_1).f0), .string ((rd_T64 l0_5 x14_1).f1)] (by rfl) rfl rfl mA ?_
      with_reducible refine (impl_JoinName.calls k1 ((rd_T64 l0_5 x14_1).f0) ((rd_T64 l0_5 x14_1).f1) t280 _ ?tabs A13.out).mono ?_
      case tabs => first | exact Tabs.below HT.out hB | (repeat (first | exact HT.out | (with_reducible refine Tabs.drewN ?_ _) | (with_reducible refine Tabs.drew ?_) | (with_reducible refine Tabs.alloc ?_ _)))
      rintro e w23 ⟨rfl, hb⟩
      refine ⟨_, rfl, ?_⟩
      replace HO_5 := Aside0.mk (Kd.R_below (by (with_reducible repeat (first|apply rA|apply rN|apply rD)); exact HO_5.out) hb)
      replace BK272 := Aside0.mk (blk_below (g := gb272) (by (with_reducible repeat (first | refine bN ?_ _|refine bD ?_|refine bA ?_ _)); exact BK272.out) hb)
      replace BK273 := Aside0.mk (blk_below (g := gb273) (by (with_reducible repeat (first | refine bN ?_ _|refine bD ?_|refine bA ?_ _)); exact BK273.out) hb)
      replace BK278 := Aside0.mk (blk_below (g := gb278) (by (with_reducible repeat (first | refine bN ?_ _|refine bD ?_|refine bA ?_ _)); exact BK278.out) hb)
      replace BK287 := Aside0.mk (blk_below (g := gb287) (by (with_reducible repeat (first | refine bN ?_ _|refine bD ?_|refine bA ?_ _)); exact BK287.out) hb)
      replace HB := Aside0.mk (below_step hB hb)
      (try clear hb)
      (try clear hb2)
      (try clear hk)
      (try clear hi)
      refine hK.out _ _ ⟨(blk_cell BK273.out 0).trans rfl, (blk_cell BK273.out 1).trans rfl, (blk_cell BK273.out 2).trans rfl, (blk_cell BK272.out 0).trans rfl, (blk_cell BK272.out 1).trans rfl, (blk_cell BK272.out 2).trans rfl, (blk_cell BK272.out 3).trans rfl, (blk_cell BK272.out 4).trans rfl, (blk_cell BK272.out 5).trans rfl, (blk_cell BK272.out 6).trans rfl, (blk_cell BK272.out 7).trans rfl, (blk_cell BK278.out 0).trans rfl, (blk_cell BK278.out 1).trans rfl, (blk_cell BK278.out 2).trans rfl, (blk_cell BK278.out 3).trans rfl⟩ (fun hHeld => ?_)
      clear hK K
      refine norm_ (a' := ?_) ?_ ?_
      rotate_left
      ·show Act.put _ (some 30) _ = _
       simp only [Act.put, sT, sZ, sS, i64_w, i32_w]
       rfl
      refine one_ (i := 12) (N := some 31) #[true, true, true, true, true, true, true, true, true, true, true, true, true, false, false, false, true, false, false] rfl rfl (one_of HT_.out (by kernel_rfl)) (by decide) (fun K hK => ?_)
      refine goes_ Tryd.func49 (by kernel_rfl) rfl #[.slice A1_2 l1_2.length c1_2, .string t279, .string t280] (by rfl) rfl rfl mA ?_
      with_reducible refine (impl_DefOf.calls _ _ l1_2 t279 t280 t281 t282 t283 t284 t285 t286 _ ?side1 ?side2 A14.out).mono ?_
      (case side1 => repeat (first | exact (Kd.C_below HR1_2.out HB.out) | (with_reducible refine Kd.C_alloc ?_ _) | (with_reducible refine Kd.C_drewN ?_ _) | (with_reducible refine Kd.C_drew ?_)))
      (case side2 => exact HC1_2.out)
      rintro e w24 ⟨rfl, hb⟩
      refine ⟨_, rfl, ?_⟩
      replace HO_5 := Aside0.mk (Kd.R_below (by (with_reducible repeat (first|apply rA|apply rN|apply rD)); exact HO_5.out) hb)
      replace BK272 := Aside0.mk (blk_below (g := gb272) (by (with_reducible repeat (first | refine bN ?_ _|refine bD ?_|refine bA ?_ _)); exact BK272.out) hb)
      replace BK273 := Aside0.mk (blk_below (g := gb273) (by (with_reducible repeat (first | refine bN ?_ _|refine bD ?_|refine bA ?_ _)); exact BK273.out) hb)
      replace BK278 := Aside0.mk (blk_below (g := gb278) (by (with_reducible repeat (first | refine bN ?_ _|refine bD ?_|refine bA ?_ _)); exact BK278.out) hb)
      replace BK287 := Aside0.mk (blk_below (g := gb287) (by (with_reducible repeat (first | refine bN ?_ _|refine bD ?_|refine bA ?_ _)); exact BK287.out) hb)
      replace HB := Aside0.mk (below_step hB hb)
      (try clear hb)
      (try clear hb2)
      (try clear hk)
      (try clear hi)
      refine hK.out _ _ ⟨(blk_cell BK273.out 0).trans rfl, (blk_cell BK273.out 1).trans rfl, (blk_cell BK273.out 2).trans rfl, (blk_cell BK272.out 0).trans rfl, (blk_cell BK272.out 1).trans rfl, (blk_cell BK272.out 2).trans rfl, (blk_cell BK272.out 3).trans rfl, (blk_cell BK272.out 4).trans rfl, (blk_cell BK272.out 5).trans rfl, (blk_cell BK272.out 6).trans rfl, (blk_cell BK272.out 7).trans rfl, (blk_cell BK278.out 0).trans rfl, (blk_cell BK278.out 1).trans rfl, (blk_cell BK278.out 2).trans rfl, (blk_cell BK278.out 3).trans rfl⟩ (fun hHeld => ?_)
      clear hK K
      refine norm_ (a' := ?_) ?_ ?_
      rotate_left
      ·show Act.put _ (some 31) _ = _
       simp only [Act.put, sT, sZ, sS, i64_w, i32_w]
       rfl
      refine pU 13 18 #[true, true, true, true, true, true, true, true, true, true, true, true, true, true, false, false, true, false, false] ?_
      refine pU 14 32 #[true, true, true, true, true, true, true, true, true, true, true, true, true, true, true, false, true, false, false] ?_
      refine pU 15 33 (tf 17 2) ?_
      exact norm_ (by simp only [putAll, Act.put, List.setIfInBounds_toArray, List.set_cons_zero, List.set_cons_succ]) (hCont (gb287) _ ⟨hHeld, (by (with_reducible repeat (first|apply rA|apply rN|apply rD)); exact HO_5.out), (by (with_reducible repeat (first | refine bN ?_ _|refine bD ?_|refine bA ?_ _)); exact BK272.out), (by (with_reducible repeat (first | refine bN ?_ _|refine bD ?_|refine bA ?_ _)); exact BK273.out), (by (with_reducible repeat (first | refine bN ?_ _|refine bD ?_|refine bA ?_ _)); exact BK278.out), (by (with_reducible repeat (first | refine bN ?_ _|refine bD ?_|refine bA ?_ _)); exact BK287.out), GW287.out, GE287.out, NB272_287.out, NB287_272.out, NB273_287.out, NB287_273.out, NB278_287.out, NB287_278.out, hB⟩)
    rintro gb287 w25 ⟨hS_, h0_, h1_, h2_, h3_, h4_, h5_, h6_, h7_, h8_, h9_, h10_, h11_, h12_, h13_⟩
    have n0_ : Aside0 (Kd.R k64 64 w25 w.heap.size (fun k_ => k_ ≠ gb278) u5 x5_1) := ⟨h0_⟩
    have n1_ : Aside0 (w25.heap[gb272]? = some (.cells #[.int .i64 a0_0, .string a0_1, .string a0_2, .string a0_3, .slice A0_4 l0_4.length c0_4, .slice (some ad277) l0_5.length c0_5, .slice A0_6 l0_6.length c0_6, .string a0_7] 38 (0, 0))) := ⟨h1_⟩
    have n2_ : Aside0 (w25.heap[gb273]? = some (.cells #[.string a1_0, .slice A1_1 l1_1.length c1_1, .slice A1_2 l1_2.length c1_2] 43 (0, 0))) := ⟨h2_⟩
    have n3_ : Aside0 (w25.heap[gb278]? = some (.cells #[.string ((rd_T64 l0_5 x14_1).f0), .string ((rd_T64 l0_5 x14_1).f1), .string ((rd_T64 l0_5 x14_1).f2), .string ((rd_T64 l0_5 x14_1).f3)] 64 (0, 0))) := ⟨h3_⟩
    have n4_ : Aside0 (w25.heap[gb287]? = some (.cells #[.string (⟨#[]⟩ : ByteArray), .string (⟨#[]⟩ : ByteArray), .bool false, .bool false, .string (⟨#[]⟩ : ByteArray)] 85 (0, 0))) := ⟨h4_⟩
    have n5_ : Aside0 (w.heap.size ≤ gb287) := ⟨h5_⟩
    have n6_ : Aside0 (w.heap.size ≤ gb287) := ⟨h6_⟩
    have n7_ : Aside0 (gb272 ≠ gb287) := ⟨h7_⟩
    have n8_ : Aside0 (gb287 ≠ gb272) := ⟨h8_⟩
    have n9_ : Aside0 (gb273 ≠ gb287) := ⟨h9_⟩
    have n10_ : Aside0 (gb287 ≠ gb273) := ⟨h10_⟩
    have n11_ : Aside0 (gb278 ≠ gb287) := ⟨h11_⟩
    have n12_ : Aside0 (gb287 ≠ gb278) := ⟨h12_⟩
    have n13_ : Aside0 (Below w.heap.size w w25) := ⟨h13_⟩
    clear HO_5
    clear BK272
    clear BK273
    clear BK278
    clear HB
    clear h0_ h1_ h2_ h3_ h4_ h5_ h6_ h7_ h8_ h9_ h10_ h11_ h12_ h13_
    have HO_5 := n0_
    have BK272 := n1_
    have BK273 := n2_
    have BK278 := n3_
    have BK287 := n4_
    have GW287 := n5_
    have GE287 := n6_
    have NB272_287 := n7_
    have NB287_272 := n8_
    have NB273_287 := n9_
    have NB287_273 := n10_
    have NB278_287 := n11_
    have NB287_278 := n12_
    have HB := n13_
    clear n0_ n1_ n2_ n3_ n4_ n5_ n6_ n7_ n8_ n9_ n10_ n11_ n12_ n13_
    have hHeld : w25.cell? ⟨gb273, 0, none⟩ = some (.string a1_0) ∧ w25.cell? ⟨gb273, 1, none⟩ = some (.slice A1_1 l1_1.length c1_1) ∧ w25.cell? ⟨gb273, 2, none⟩ = some (.slice A1_2 l1_2.length c1_2) ∧ w25.cell? ⟨gb272, 0, none⟩ = some (.int .i64 a0_0) ∧ w25.cell? ⟨gb272, 1, none⟩ = some (.string a0_1) ∧ w25.cell? ⟨gb272, 2, none⟩ = some (.string a0_2) ∧ w25.cell? ⟨gb272, 3, none⟩ = some (.string a0_3) ∧ w25.cell? ⟨gb272, 4, none⟩ = some (.slice A0_4 l0_4.length c0_4) ∧ w25.cell? ⟨gb272, 5, none⟩ = some (.slice (some ad277) l0_5.length c0_5) ∧ w25.cell? ⟨gb272, 6, none⟩ = some (.slice A0_6 l0_6.length c0_6) ∧ w25.cell? ⟨gb272, 7, none⟩ = some (.string a0_7) ∧ w25.cell? ⟨gb278, 0, none⟩ = some (.string ((rd_T64 l0_5 x14_1).f0)) ∧ w25.cell? ⟨gb278, 1, none⟩ = some (.string ((rd_T64 l0_5 x14_1).f1)) ∧ w25.cell? ⟨gb278, 2, none⟩ = some (.string ((rd_T64 l0_5 x14_1).f2)) ∧ w25.cell? ⟨gb278, 3, none⟩ = some (.string ((rd_T64 l0_5 x14_1).f3)) := hS_
    refine norm_ (a' := ?_) ?_ ?_
    rotate_left
    ·simp only [putAll, Act.put, List.setIfInBounds_toArray, List.set_cons_zero, List.set_cons_succ]
     rfl
    refine one_ (i := 17) (N := none) (tf 18 1) rfl rfl (one_of HT_.out (by kernel_rfl)) (by decide) (fun K hK => ?_)
    have hs26 : w25.cell? ⟨gb287, 0, none⟩ = some (.string (⟨#[]⟩ : ByteArray)) := (blk_cell BK287.out 0).trans rfl
    have hfs26 := blk_frozen BK287.out 0
    have hns26_0 := NB272_287.out
    have hns26_1 := NB273_287.out
    have hns26_2 := NB278_287.out
    have hms26_0 := NB287_272.out
    have hms26_1 := NB287_273.out
    have hms26_2 := NB287_278.out
    have hs27 : w25.cell? ⟨gb287, 1, none⟩ = some (.string (⟨#[]⟩ : ByteArray)) := (blk_cell BK287.out 1).trans rfl
    have hfs27 := blk_frozen BK287.out 1
    have hns27_0 := NB272_287.out
    have hns27_1 := NB273_287.out
    have hns27_2 := NB278_287.out
    have hms27_0 := NB287_272.out
    have hms27_1 := NB287_273.out
    have hms27_2 := NB287_278.out
    have hs28 : w25.cell? ⟨gb287, 2, none⟩ = some (.bool false) := (blk_cell BK287.out 2).trans rfl
    have hfs28 := blk_frozen BK287.out 2
    have hns28_0 := NB272_287.out
    have hns28_1 := NB273_287.out
    have hns28_2 := NB278_287.out
    have hms28_0 := NB287_272.out
    have hms28_1 := NB287_273.out
    have hms28_2 := NB287_278.out
    have hs29 : w25.cell? ⟨gb287, 3, none⟩ = some (.bool false) := (blk_cell BK287.out 3).trans rfl
    have hfs29 := blk_frozen BK287.out 3
    have hns29_0 := NB272_287.out
    have hns29_1 := NB273_287.out
    have hns29_2 := NB278_287.out
    have hms29_0 := NB287_272.out
    have hms29_1 := NB287_273.out
    have hms29_2 := NB287_278.out
    have hs30 : w25.cell? ⟨gb287, 4, none⟩ = some (.string (⟨#[]⟩ : ByteArray)) := (blk_cell BK287.out 4).trans rfl
    have hfs30 := blk_frozen BK287.out 4
    have hns30_0 := NB272_287.out
    have hns30_1 := NB273_287.out
    have hns30_2 := NB278_287.out
    have hms30_0 := NB287_272.out
    have hms30_1 := NB287_273.out
    have hms30_2 := NB287_278.out
    refine skip_ (w1 := ?_) (by rfl) rfl ?_ ?_
    rotate_left
    ·go_simp
     rfl
    refine hK.out _ _ ⟨((cell_far (p := ⟨gb287, _, none⟩) NB273_287.out _).trans (((cell_far (p := ⟨gb287, _, none⟩) NB273_287.out _).trans (((cell_far (p := ⟨gb287, _, none⟩) NB273_287.out _).trans (((cell_far (p := ⟨gb287, _, none⟩) NB273_287.out _).trans (((cell_far (p := ⟨gb287, _, none⟩) NB273_287.out _).trans (hHeld.1)))))))))), ((cell_far (p := ⟨gb287, _, none⟩) NB273_287.out _).trans (((cell_far (p := ⟨gb287, _, none⟩) NB273_287.out _).trans (((cell_far (p := ⟨gb287, _, none⟩) NB273_287.out _).trans (((cell_far (p := ⟨gb287, _, none⟩) NB273_287.out _).trans (((cell_far (p := ⟨gb287, _, none⟩) NB273_287.out _).trans (hHeld.2.1)))))))))), ((cell_far (p := ⟨gb287, _, none⟩) NB273_287.out _).trans (((cell_far (p := ⟨gb287, _, none⟩) NB273_287.out _).trans (((cell_far (p := ⟨gb287, _, none⟩) NB273_287.out _).trans (((cell_far (p := ⟨gb287, _, none⟩) NB273_287.out _).trans (((cell_far (p := ⟨gb287, _, none⟩) NB273_287.out _).trans (hHeld.2.2.1)))))))))), ((cell_far (p := ⟨gb287, _, none⟩) NB272_287.out _).trans (((cell_far (p := ⟨gb287, _, none⟩) NB272_287.out _).trans (((cell_far (p := ⟨gb287, _, none⟩) NB272_287.out _).trans (((cell_far (p := ⟨gb287, _, none⟩) NB272_287.out _).trans (((cell_far (p := ⟨gb287, _, none⟩) NB272_287.out _).trans (hHeld.2.2.2.1)))))))))), ((cell_far (p := ⟨gb287, _, none⟩) NB272_287.out _).trans (((cell_far (p := ⟨gb287, _, none⟩) NB272_287.out _).trans (((cell_far (p := ⟨gb287, _, none⟩) NB272_287.out _).trans (((cell_far (p := ⟨gb287, _, none⟩) NB272_287.out _).trans (((cell_far (p := ⟨gb287, _, none⟩) NB272_287.out _).trans (hHeld.2.2.2.2.1)))))))))), ((cell_far (p := ⟨gb287, _, none⟩) NB272_287.out _).trans (((cell_far (p := ⟨gb287, _, none⟩) NB272_287.out _).trans (((cell_far (p := ⟨gb287, _, none⟩) NB272_287.out _).trans (((cell_far (p := ⟨gb287, _, none⟩) NB272_287.out _).trans (((cell_far (p := ⟨gb287, _, none⟩) NB272_287.out _).trans (hHeld.2.2.2.2.2.1)))))))))), ((cell_far (p := ⟨gb287, _, none⟩) NB272_287.out _).trans (((cell_far (p := ⟨gb287, _, none⟩) NB272_287.out _).trans (((cell_far (p := ⟨gb287, _, none⟩) NB272_287.out _).trans (((cell_far (p := ⟨gb287, _, none⟩) NB272_287.out _).trans (((cell_far (p := ⟨gb287, _, none⟩) NB272_287.out _).trans (hHeld.2.2.2.2.2.2.1)))))))))), ((cell_far (p := ⟨gb287, _, none⟩) NB272_287.out _).trans (((cell_far (p := ⟨gb287, _, none⟩) NB272_287.out _).trans (((cell_far (p := ⟨gb287, _, none⟩) NB272_287.out _).trans (((cell_far (p := ⟨gb287, _, none⟩) NB272_287.out _).trans (((cell_far (p := ⟨gb287, _, none⟩) NB272_287.out _).trans (hHeld.2.2.2.2.2.2.2.1)))))))))), ((cell_far (p := ⟨gb287, _, none⟩) NB272_287.out _).trans (((cell_far (p := ⟨gb287, _, none⟩) NB272_287.out _).trans (((cell_far (p := ⟨gb287, _, none⟩) NB272_287.out _).trans (((cell_far (p := ⟨gb287, _, none⟩) NB272_287.out _).trans (((cell_far (p := ⟨gb287, _, none⟩) NB272_287.out _).trans (hHeld.2.2.2.2.2.2.2.2.1)))))))))), ((cell_far (p := ⟨gb287, _, none⟩) NB272_287.out _).trans (((cell_far (p := ⟨gb287, _, none⟩) NB272_287.out _).trans (((cell_far (p := ⟨gb287, _, none⟩) NB272_287.out _).trans (((cell_far (p := ⟨gb287, _, none⟩) NB272_287.out _).trans (((cell_far (p := ⟨gb287, _, none⟩) NB272_287.out _).trans (hHeld.2.2.2.2.2.2.2.2.2.1)))))))))), ((cell_far (p := ⟨gb287, _, none⟩) NB272_287.out _).trans (((cell_far (p := ⟨gb287, _, none⟩) NB272_287.out _).trans (((cell_far (p := ⟨gb287, _, none⟩) NB272_287.out _).trans (((cell_far (p := ⟨gb287, _, none⟩) NB272_287.out _).trans (((cell_far (p := ⟨gb287, _, none⟩) NB272_287.out _).trans (hHeld.2.2.2.2.2.2.2.2.2.2.1)))))))))), ((cell_far (p := ⟨gb287, _, none⟩) NB278_287.out _).trans (((cell_far (p := ⟨gb287, _, none⟩) NB278_287.out _).trans (((cell_far (p := ⟨gb287, _, none⟩) NB278_287.out _).trans (((cell_far (p := ⟨gb287, _, none⟩) NB278_287.out _).trans (((cell_far (p := ⟨gb287, _, none⟩) NB278_287.out _).trans (hHeld.2.2.2.2.2.2.2.2.2.2.2.1)))))))))), ((cell_far (p := ⟨gb287, _, none⟩) NB278_287.out _).trans (((cell_far (p := ⟨gb287, _, none⟩) NB278_287.out _).trans (((cell_far (p := ⟨gb287, _, none⟩) NB278_287.out _).trans (((cell_far (p := ⟨gb287, _, none⟩) NB278_287.out _).trans (((cell_far (p := ⟨gb287, _, none⟩) NB278_287.out _).trans (hHeld.2.2.2.2.2.2.2.2.2.2.2.2.1)))))))))), ((cell_far (p := ⟨gb287, _, none⟩) NB278_287.out _).trans (((cell_far (p := ⟨gb287, _, none⟩) NB278_287.out _).trans (((cell_far (p := ⟨gb287, _, none⟩) NB278_287.out _).trans (((cell_far (p := ⟨gb287, _, none⟩) NB278_287.out _).trans (((cell_far (p := ⟨gb287, _, none⟩) NB278_287.out _).trans (hHeld.2.2.2.2.2.2.2.2.2.2.2.2.2.1)))))))))), ((cell_far (p := ⟨gb287, _, none⟩) NB278_287.out _).trans (((cell_far (p := ⟨gb287, _, none⟩) NB278_287.out _).trans (((cell_far (p := ⟨gb287, _, none⟩) NB278_287.out _).trans (((cell_far (p := ⟨gb287, _, none⟩) NB278_287.out _).trans (((cell_far (p := ⟨gb287, _, none⟩) NB278_287.out _).trans (hHeld.2.2.2.2.2.2.2.2.2.2.2.2.2.2))))))))))⟩ (fun hHeld => ?_)
    clear hK K
    refine pU 18 9 (tf 19 0) ?_
    refine done_ (done_of HT_.out (by kernel_rfl)) ?_
    by_cases c31 : t286 = true
    ·subst c31
     rw [if_pos rfl] at H
     by_cases c32 : t283 = true
     ·subst c32
      rw [if_pos rfl] at H
      by_cases c33 : a0_0 = 1
      ·rw [if_pos c33] at H
       obtain ⟨c33b0, c33b1⟩ := eqT c33
       clear c33
       (first | rw [c33b0] | (simp only [i64_w, i32_w]; rw [c33b0]) | skip)
       obtain ⟨c34, H⟩ := if_som H
       have LMc34 := Aside0.mk c34
       clear c34
       obtain ⟨y288, hy288⟩ : ∃ y_ : List (S64), y_ = (x5_1 ++ [(⟨(rd_T64 l0_5 x14_1).f0, (rd_T64 l0_5 x14_1).f1, (rd_T64 l0_5 x14_1).f2, (rd_T64 l0_5 x14_1).f3⟩ : S64)]) := ⟨_, rfl⟩
       replace H : (impl_idsOf.l0 k1 y288 l0_5 (l0_5.length : Int) (wrap64 (x14_1 + 1)) a0_0 a0_1 a0_2 a0_3 l0_4 l0_5 l0_6 a0_7 a1_0 l1_1 l1_2) = some r := by first | (rw [hy288]; with_reducible exact H) | (have H2_ := (Option.bind_some _ _).symm.trans H; rw [hy288]; with_reducible exact H2_) | (have H2_ := (Option.bind_some _ _).symm.trans H; with_reducible exact H2_) | with_reducible exact H | (rw [hy288]; exact H) | exact H
       have Ny288 := Aside0.mk hy288
       clear hy288
       have H' := Aside0.mk H
       clear H
       have hnb35 := NB287_272.out
       have hnc35 := NB272_287.out
       have hnb36 := NB287_273.out
       have hnc36 := NB273_287.out
       have hnb37 := NB287_278.out
       have hnc37 := NB278_287.out
       obtain ⟨hcz38_0, hcz38_1, hcz38_2, hcz38_3, hcz38_4⟩ := bc5 BK287.out
       obtain ⟨hfz38_0, hfz38_1, hfz38_2, hfz38_3, hfz38_4⟩ := bf5 BK287.out
       have hnb39 := NB272_273.out
       have hnc39 := NB273_272.out
       have hnb40 := NB272_278.out
       have hnc40 := NB278_272.out
       obtain ⟨hcz41_0, hcz41_1, hcz41_2, hcz41_3, hcz41_4, hcz41_5, hcz41_6, hcz41_7⟩ := bc8 BK272.out
       obtain ⟨hfz41_0, hfz41_1, hfz41_2, hfz41_3, hfz41_4, hfz41_5, hfz41_6, hfz41_7⟩ := bf8 BK272.out
       have hnb42 := NB278_273.out
       have hnc42 := NB273_278.out
       obtain ⟨hcz43_0, hcz43_1, hcz43_2, hcz43_3⟩ := bc4 BK278.out
       obtain ⟨hfz43_0, hfz43_1, hfz43_2, hfz43_3⟩ := bf4 BK278.out
       go_wp2_with (first | ((with_reducible refine gate_builtin (b := .append) (xs := #[.tmp 44, .tmp 46]) rfl ?_); at_builtin; refine Kd.R_append k64 (w0 := w) w.heap.size rfl (.tmp 44) (.tmp 46) 33 64 (.agg #[(.string ⟨#[]⟩), (.string ⟨#[]⟩), (.string ⟨#[]⟩), (.string ⟨#[]⟩)]) 64 rfl Tryd.underlying33 info64 rfl (by decide) (by omega) u5 x5_1 (⟨(rd_T64 l0_5 x14_1).f0, (rd_T64 l0_5 x14_1).f1, (rd_T64 l0_5 x14_1).f2, (rd_T64 l0_5 x14_1).f3⟩ : S64) [.string ((rd_T64 l0_5 x14_1).f0), .string ((rd_T64 l0_5 x14_1).f1), .string ((rd_T64 l0_5 x14_1).f2), .string ((rd_T64 l0_5 x14_1).f3)] (fun k_ => k_ ≠ gb278) (fun _ => False) rfl (by first | (go_simp; done) | (go_simp; rfl)) ?aP (fun _ hk => hk.elim) ?aF ?aO ?aB ?aS ?aL ?_; (case aP => exact k64_mkM _ _ _ (⟨(rd_T64 l0_5 x14_1).f0, (rd_T64 l0_5 x14_1).f1, (rd_T64 l0_5 x14_1).f2, (rd_T64 l0_5 x14_1).f3⟩ : S64)); (case aB => exact hB); (case aF => exact (fun k_ hk => Kd.freshB (g := gb278) (by (with_reducible repeat (first | refine bN ?_ _|refine bD ?_|refine bA ?_ _)); exact pfa5 (hn := NB278_287.out) (by (with_reducible repeat (first | refine bN ?_ _|refine bD ?_|refine bA ?_ _)); exact BK278.out)) k_ hk)); (case aO => exact (by (with_reducible repeat (first|apply rA|apply rN|apply rD)); exact Kd.R_mono (Kd.R_far (p := ⟨gb287, 4, none⟩) (Kd.R_far (p := ⟨gb287, 3, none⟩) (Kd.R_far (p := ⟨gb287, 2, none⟩) (Kd.R_far (p := ⟨gb287, 1, none⟩) (Kd.R_far (p := ⟨gb287, 0, none⟩) (Kd.R_types HO_5.out BK287.out (by decide)) (fun _ hk => hk.2) (.string t281)) (fun _ hk => hk.2) (.string t282)) (fun _ hk => hk.2) (.bool true)) (fun _ hk => hk.2) (.bool t284)) (fun _ hk => hk.2) (.string t285)) (fun _ hk => hk.1))); (case aS => exact (below_size hB)); (case aL => have := LMc34.out; omega); intro v289 w44 ho hb hg hat; rw [← Ny288.out] at ho; replace BK272 := Aside0.mk (blk_grown (g := gb272) (by (with_reducible repeat (first | refine bN ?_ _|refine bD ?_|refine bA ?_ _)); exact pfa5 (hn := NB272_287.out) (by (with_reducible repeat (first | refine bN ?_ _|refine bD ?_|refine bA ?_ _)); exact BK272.out)) hg (Kd.R_ne HO_5.out BK272.out (by decide))); replace BK273 := Aside0.mk (blk_grown (g := gb273) (by (with_reducible repeat (first | refine bN ?_ _|refine bD ?_|refine bA ?_ _)); exact pfa5 (hn := NB273_287.out) (by (with_reducible repeat (first | refine bN ?_ _|refine bD ?_|refine bA ?_ _)); exact BK273.out)) hg (Kd.R_ne HO_5.out BK273.out (by decide))); replace BK278 := Aside0.mk (blk_grown (g := gb278) (by (with_reducible repeat (first | refine bN ?_ _|refine bD ?_|refine bA ?_ _)); exact pfa5 (hn := NB278_287.out) (by (with_reducible repeat (first | refine bN ?_ _|refine bD ?_|refine bA ?_ _)); exact BK278.out)) hg (Kd.R_away HO_5.out (fun _ hk => hk))); replace BK287 := Aside0.mk (blk_grown (g := gb287) (by (with_reducible repeat (first | refine bN ?_ _|refine bD ?_|refine bA ?_ _)); exact put5 (by (with_reducible repeat (first | refine bN ?_ _|refine bD ?_|refine bA ?_ _)); exact BK287.out)) hg (Kd.R_ne HO_5.out BK287.out (by decide))); replace HB := Aside0.mk (hb); have HO290 := Aside0.mk (ho); clear HO_5; clear ho hb hg hat))
       go_roundg k1
       case measure => have := HK1.out; omega
       case rel => exact ⟨(y288), (wrap64 (x14_1 + 1)), rG, H', ⟨by have := HK1.out; omega⟩, ⟨by (with_reducible repeat (first|apply rA|apply rN|apply rD)); exact Kd.R_mono HO290.out (fun _ hk => trivial)⟩, ⟨by (with_reducible repeat (first | refine bN ?_ _|refine bD ?_|refine bA ?_ _)); exact BK272.out⟩, ⟨by (with_reducible repeat (first | refine bN ?_ _|refine bD ?_|refine bA ?_ _)); exact BK273.out⟩, ⟨hB⟩⟩
      ·rw [if_neg c33] at H
       obtain ⟨c33b0, c33b1⟩ := eqF c33
       (first | rw [c33b0] | (simp only [i64_w, i32_w]; rw [c33b0]) | skip)
       have H' := Aside0.mk H
       clear H
       have hnb45 := NB287_272.out
       have hnc45 := NB272_287.out
       have hnb46 := NB287_273.out
       have hnc46 := NB273_287.out
       have hnb47 := NB287_278.out
       have hnc47 := NB278_287.out
       obtain ⟨hcz48_0, hcz48_1, hcz48_2, hcz48_3, hcz48_4⟩ := bc5 BK287.out
       obtain ⟨hfz48_0, hfz48_1, hfz48_2, hfz48_3, hfz48_4⟩ := bf5 BK287.out
       have hnb49 := NB272_273.out
       have hnc49 := NB273_272.out
       have hnb50 := NB272_278.out
       have hnc50 := NB278_272.out
       obtain ⟨hcz51_0, hcz51_1, hcz51_2, hcz51_3, hcz51_4, hcz51_5, hcz51_6, hcz51_7⟩ := bc8 BK272.out
       obtain ⟨hfz51_0, hfz51_1, hfz51_2, hfz51_3, hfz51_4, hfz51_5, hfz51_6, hfz51_7⟩ := bf8 BK272.out
       go_wp2
       go_roundg k1
       case measure => have := HK1.out; omega
       case rel => exact ⟨(x5_1), (wrap64 (x14_1 + 1)), rG, H', ⟨by have := HK1.out; omega⟩, ⟨by (with_reducible repeat (first|apply rA|apply rN|apply rD)); exact Kd.R_mono (Kd.R_far (p := ⟨gb287, 4, none⟩) (Kd.R_far (p := ⟨gb287, 3, none⟩) (Kd.R_far (p := ⟨gb287, 2, none⟩) (Kd.R_far (p := ⟨gb287, 1, none⟩) (Kd.R_far (p := ⟨gb287, 0, none⟩) (Kd.R_types HO_5.out BK287.out (by decide)) (fun _ hk => hk.2) (.string t281)) (fun _ hk => hk.2) (.string t282)) (fun _ hk => hk.2) (.bool true)) (fun _ hk => hk.2) (.bool t284)) (fun _ hk => hk.2) (.string t285)) (fun _ hk => trivial)⟩, ⟨by (with_reducible repeat (first | refine bN ?_ _|refine bD ?_|refine bA ?_ _)); exact pfa5 (hn := NB272_287.out) (by (with_reducible repeat (first | refine bN ?_ _|refine bD ?_|refine bA ?_ _)); exact BK272.out)⟩, ⟨by (with_reducible repeat (first | refine bN ?_ _|refine bD ?_|refine bA ?_ _)); exact pfa5 (hn := NB273_287.out) (by (with_reducible repeat (first | refine bN ?_ _|refine bD ?_|refine bA ?_ _)); exact BK273.out)⟩, ⟨hB⟩⟩
     ·replace c32 := Bool.eq_false_iff.mpr c32
      subst c32
      rw [if_neg (show ¬ (false = true) by decide)] at H
      have H' := Aside0.mk H
      clear H
      have hnb52 := NB287_272.out
      have hnc52 := NB272_287.out
      have hnb53 := NB287_273.out
      have hnc53 := NB273_287.out
      have hnb54 := NB287_278.out
      have hnc54 := NB278_287.out
      obtain ⟨hcz55_0, hcz55_1, hcz55_2, hcz55_3, hcz55_4⟩ := bc5 BK287.out
      obtain ⟨hfz55_0, hfz55_1, hfz55_2, hfz55_3, hfz55_4⟩ := bf5 BK287.out
      go_wp2
      go_roundg k1
      case measure => have := HK1.out; omega
      case rel => exact ⟨(x5_1), (wrap64 (x14_1 + 1)), rG, H', ⟨by have := HK1.out; omega⟩, ⟨by (with_reducible repeat (first|apply rA|apply rN|apply rD)); exact Kd.R_mono (Kd.R_far (p := ⟨gb287, 4, none⟩) (Kd.R_far (p := ⟨gb287, 3, none⟩) (Kd.R_far (p := ⟨gb287, 2, none⟩) (Kd.R_far (p := ⟨gb287, 1, none⟩) (Kd.R_far (p := ⟨gb287, 0, none⟩) (Kd.R_types HO_5.out BK287.out (by decide)) (fun _ hk => hk.2) (.string t281)) (fun _ hk => hk.2) (.string t282)) (fun _ hk => hk.2) (.bool false)) (fun _ hk => hk.2) (.bool t284)) (fun _ hk => hk.2) (.string t285)) (fun _ hk => trivial)⟩, ⟨by (with_reducible repeat (first | refine bN ?_ _|refine bD ?_|refine bA ?_ _)); exact pfa5 (hn := NB272_287.out) (by (with_reducible repeat (first | refine bN ?_ _|refine bD ?_|refine bA ?_ _)); exact BK272.out)⟩, ⟨by (with_reducible repeat (first | refine bN ?_ _|refine bD ?_|refine bA ?_ _)); exact pfa5 (hn := NB273_287.out) (by (with_reducible repeat (first | refine bN ?_ _|refine bD ?_|refine bA ?_ _)); exact BK273.out)⟩, ⟨hB⟩⟩
    ·replace c31 := Bool.eq_false_iff.mpr c31
     subst c31
     rw [if_neg (show ¬ (false = true) by decide)] at H
     have H' := Aside0.mk H
     clear H
     go_wp2
     go_roundg k1
     case measure => have := HK1.out; omega
     case rel => exact ⟨(x5_1), (wrap64 (x14_1 + 1)), rG, H', ⟨by have := HK1.out; omega⟩, ⟨by (with_reducible repeat (first|apply rA|apply rN|apply rD)); exact Kd.R_mono (Kd.R_far (p := ⟨gb287, 4, none⟩) (Kd.R_far (p := ⟨gb287, 3, none⟩) (Kd.R_far (p := ⟨gb287, 2, none⟩) (Kd.R_far (p := ⟨gb287, 1, none⟩) (Kd.R_far (p := ⟨gb287, 0, none⟩) (Kd.R_types HO_5.out BK287.out (by decide)) (fun _ hk => hk.2) (.string t281)) (fun _ hk => hk.2) (.string t282)) (fun _ hk => hk.2) (.bool t283)) (fun _ hk => hk.2) (.bool t284)) (fun _ hk => hk.2) (.string t285)) (fun _ hk => trivial)⟩, ⟨by (with_reducible repeat (first | refine bN ?_ _|refine bD ?_|refine bA ?_ _)); exact pfa5 (hn := NB272_287.out) (by (with_reducible repeat (first | refine bN ?_ _|refine bD ?_|refine bA ?_ _)); exact BK272.out)⟩, ⟨by (with_reducible repeat (first | refine bN ?_ _|refine bD ?_|refine bA ?_ _)); exact pfa5 (hn := NB273_287.out) (by (with_reducible repeat (first | refine bN ?_ _|refine bD ?_|refine bA ?_ _)); exact BK273.out)⟩, ⟨hB⟩⟩
   ·rw [if_neg c9] at H
    have c9b0 : decide (x14_1 < (l0_5.length : Int)) = false := decide_eq_false c9
    clear c9
    obtain rfl := Option.some.inj H
    go_wp2
    go_ret
    exact ⟨_, rE, by (with_reducible repeat (first|apply rA|apply rN|apply rD)); exact HO_5.out, hB⟩

end Go.Proofs.YtdbinpeglamnnaaDoor.PI
