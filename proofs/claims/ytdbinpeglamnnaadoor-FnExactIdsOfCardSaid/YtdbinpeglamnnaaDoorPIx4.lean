-- Written by the session's program hprint.py, over the kit's print program. Lean checks it.
import Derived.Test.YtdbinpeglamnnaaDoorPIx0
import Derived.Test.YtdbinpeglamnnaaDoorPIx2
import Derived.Test.YtdbinpeglamnnaaDoorPIx3
namespace Go.Proofs.YtdbinpeglamnnaaDoor.PI
open Go.RowKit Go.Proofs.YtdbinpeglamnnaaDoorW.PrintWords Go.Proofs.YtdbinpeglamnnaaDoorW.PrintLast Go.Proofs.YtdbinpeglamnnaaDoorW.PrintMore
attribute [local go_sem] max2_int min2_int max_two min_two max_three min_three max_four min_four   -- for this text's walks alone
set_option linter.unusedVariables false
set_option linter.unusedSimpArgs false
set_option maxHeartbeats 8000000
set_option maxRecDepth 100000

/-! ### spec_l8Ids: function 22 -/
mutual
def spec_l8Ids.l0 : Nat → List (S64) → Int → Int → ByteArray → ByteArray → ByteArray → List (S89) → List (S64) → List (S38) → ByteArray → ByteArray → List (S92) → List (S85) → Option ((List (S64)))
 | 0, _, _, _, _, _, _, _, _, _, _, _, _, _ => none
 | k + 1, x5, x6, x154000, x154001, x154002, x154003, x154004, x154005, x154006, x154007, x155000, x155001, x155002 => if x6 < (x154005.length : Int) then (if 0 ≤ x6 then ((spec_JoinName.f k x154001 x154002).bind fun t160 => ((spec_JoinName.f k ((rd_T64 x154005 x6).f0) ((rd_T64 x154005 x6).f1)).bind fun t161 => ((spec_DefOf.f k x155002 t160 t161).bind fun bt162 => (if bt162.2.2.2.2.2 = true then (if bt162.2.2.1 = true then (if x154000 = 1 then (if x5.length < 2199023255552 then (spec_l8Ids.l0 k (x5 ++ [(⟨(rd_T64 x154005 x6).f0, (rd_T64 x154005 x6).f1, (rd_T64 x154005 x6).f2, (rd_T64 x154005 x6).f3⟩ : S64)]) (wrap64 (x6 + 1)) x154000 x154001 x154002 x154003 x154004 x154005 x154006 x154007 x155000 x155001 x155002) else (none)) else (spec_l8Ids.l0 k x5 (wrap64 (x6 + 1)) x154000 x154001 x154002 x154003 x154004 x154005 x154006 x154007 x155000 x155001 x155002)) else (spec_l8Ids.l0 k x5 (wrap64 (x6 + 1)) x154000 x154001 x154002 x154003 x154004 x154005 x154006 x154007 x155000 x155001 x155002)) else (spec_l8Ids.l0 k x5 (wrap64 (x6 + 1)) x154000 x154001 x154002 x154003 x154004 x154005 x154006 x154007 x155000 x155001 x155002))))) else (none)) else (spec_l8Ids.l1 k x5 0 x154000 x154001 x154002 x154003 x154004 x154005 x154006 x154007 x155000 x155001 x155002)
def spec_l8Ids.l1 : Nat → List (S64) → Int → Int → ByteArray → ByteArray → ByteArray → List (S89) → List (S64) → List (S38) → ByteArray → ByteArray → List (S92) → List (S85) → Option ((List (S64)))
 | 0, _, _, _, _, _, _, _, _, _, _, _, _, _ => none
 | k + 1, x5, x10, x154000, x154001, x154002, x154003, x154004, x154005, x154006, x154007, x155000, x155001, x155002 => if x10 < (x154006.length : Int) then (if 0 ≤ x10 then ((spec_l8Ids.f k ((rd_T38 x154006 x10).f0) ((rd_T38 x154006 x10).f1) ((rd_T38 x154006 x10).f2) ((rd_T38 x154006 x10).f3) ((rd_T38 x154006 x10).f4) ((rd_T38 x154006 x10).f5) ((rd_T38 x154006 x10).f6) ((rd_T38 x154006 x10).f7) x155000 x155001 x155002).bind fun t173 => (if x5.length + t173.length < 2199023255552 then (spec_l8Ids.l1 k (x5 ++ t173) (wrap64 (x10 + 1)) x154000 x154001 x154002 x154003 x154004 x154005 x154006 x154007 x155000 x155001 x155002) else (none))) else (none)) else (some x5)
def spec_l8Ids.f : Nat → Int → ByteArray → ByteArray → ByteArray → List (S89) → List (S64) → List (S38) → ByteArray → ByteArray → List (S92) → List (S85) → Option ((List (S64)))
 | 0, _, _, _, _, _, _, _, _, _, _, _ => none
 | k + 1, a0_0, a0_1, a0_2, a0_3, l0_4, l0_5, l0_6, a0_7, a1_0, l1_1, l1_2 => spec_l8Ids.l0 k (([] : List (S64))) 0 a0_0 a0_1 a0_2 a0_3 l0_4 l0_5 l0_6 a0_7 a1_0 l1_1 l1_2
end
def spec_l8Ids.T6 : Bool × List (List Nat × List Nat) := (true, [([], []), ([0], [0]), ([], []), ([2], [2]), ([], []), ([4], [4]), ([3, 5], [3, 5]), ([], []), ([7], [7]), ([], []), ([9], [9]), ([8, 10, 6], [8, 10]), ([1, 6, 11, 11], [1, 6, 11]), ([12], [12]), ([13], [13]), ([13], [13]), ([], []), ([16, 14, 12, 0, 1, 2, 3, 4, 5, 6, 7, 8, 9, 10, 11, 12, 13, 14, 16], [14, 16]), ([15, 17, 0, 1, 2, 3, 4, 5, 6, 7, 8, 9, 10, 11, 12, 13, 14, 15, 16, 17], [15])])
def spec_l8Ids.B6 : List Nat := [0, 1, 0, 4, 0, 16, 60, 0, 128, 0, 512, 2044, 4095, 8191, 16383, 16383, 0, 98303, 262143]
theorem spec_l8Ids.tab6 : rtab .any (opsOf Tryd.f22 6) = spec_l8Ids.T6 := by kernel_rfl
theorem spec_l8Ids.bits6 : waitsOk spec_l8Ids.T6.2 spec_l8Ids.B6 = true := by kernel_rfl
def spec_l8Ids.T12 : Bool × List (List Nat × List Nat) := (true, [([], []), ([], []), ([1], [1]), ([], []), ([2, 3], [2, 3]), ([4], [4]), ([], []), ([5, 6], [5, 6]), ([0, 7, 7], [0, 7]), ([8, 8, 0, 1, 2, 3, 4, 5, 6, 7, 8], [0, 8])])
def spec_l8Ids.B12 : List Nat := [0, 0, 2, 0, 14, 30, 0, 126, 255, 511]
theorem spec_l8Ids.tab12 : rtab .any (opsOf Tryd.f22 12) = spec_l8Ids.T12 := by kernel_rfl
theorem spec_l8Ids.bits12 : waitsOk spec_l8Ids.T12.2 spec_l8Ids.B12 = true := by kernel_rfl
theorem spec_l8Ids.calls (k : Nat) : ∀ (a0_0 : Int) (a0_1 : ByteArray) (a0_2 : ByteArray) (a0_3 : ByteArray) (A0_4 : Option Addr) (c0_4 : Nat) (l0_4 : List (S89)) (A0_5 : Option Addr) (c0_5 : Nat) (l0_5 : List (S64)) (A0_6 : Option Addr) (c0_6 : Nat) (l0_6 : List (S38)) (a0_7 : ByteArray) (a1_0 : ByteArray) (A1_1 : Option Addr) (c1_1 : Nat) (l1_1 : List (S92)) (A1_2 : Option Addr) (c1_2 : Nat) (l1_2 : List (S85)) (r : List (S64)) (w : World) (hr0_4 : Kd.C k89 w A0_4 l0_4.length l0_4) (hc0_4 : l0_4.length ≤ c0_4) (hr0_5 : Kd.C k64 w A0_5 l0_5.length l0_5) (hc0_5 : l0_5.length ≤ c0_5) (hr0_6 : Kd.C k38 w A0_6 l0_6.length l0_6) (hc0_6 : l0_6.length ≤ c0_6) (hr1_1 : Kd.C k92 w A1_1 l1_1.length l1_1) (hc1_1 : l1_1.length ≤ c1_1) (hr1_2 : Kd.C k85 w A1_2 l1_2.length l1_2) (hc1_2 : l1_2.length ≤ c1_2) (h : spec_l8Ids.f k a0_0 a0_1 a0_2 a0_3 l0_4 l0_5 l0_6 a0_7 a1_0 l1_1 l1_2 = some r),
  Calls Tryd.prog 22 #[.agg #[.int .i64 a0_0, .string a0_1, .string a0_2, .string a0_3, .slice A0_4 l0_4.length c0_4, .slice A0_5 l0_5.length c0_5, .slice A0_6 l0_6.length c0_6, .string a0_7], .agg #[.string a1_0, .slice A1_1 l1_1.length c1_1, .slice A1_2 l1_2.length c1_2]] w fun e w' => ∃ v0_ : Value, e = .returned (v0_) ∧ Kd.R k64 64 w' w.heap.size (fun _ => True) v0_ r ∧ Below w.heap.size w w' := by
 induction k using Nat.strongRecOn with
 | _ k ih =>
 intro a0_0 a0_1 a0_2 a0_3 A0_4 c0_4 l0_4 A0_5 c0_5 l0_5 A0_6 c0_6 l0_6 a0_7 a1_0 A1_1 c1_1 l1_1 A1_2 c1_2 l1_2 r w hr0_4 hc0_4 hr0_5 hc0_5 hr0_6 hc0_6 hr1_1 hc1_1 hr1_2 hc1_2 h
 cases k with
 | zero => exact absurd h (by simp [spec_l8Ids.f])
 | succ k =>
 simp only [spec_l8Ids.f] at h
 have hu38 := Tryd.underlying38
 have hu43 := Tryd.underlying43
 have hu64 := Tryd.underlying64
 have hu85 := Tryd.underlying85
 have HR0_4 := Aside0.mk hr0_4
 have HC0_4 := Aside0.mk hc0_4
 clear hr0_4 hc0_4
 have HR0_5 := Aside0.mk hr0_5
 have HC0_5 := Aside0.mk hc0_5
 clear hr0_5 hc0_5
 have HR0_6 := Aside0.mk hr0_6
 have HC0_6 := Aside0.mk hc0_6
 clear hr0_6 hc0_6
 have HR1_1 := Aside0.mk hr1_1
 have HC1_1 := Aside0.mk hc1_1
 clear hr1_1 hc1_1
 have HR1_2 := Aside0.mk hr1_2
 have HC1_2 := Aside0.mk hc1_2
 clear hr1_2 hc1_2
 have HB := Aside0.mk (Below.refl w.heap.size w)
 have H : (spec_l8Ids.l0 k (([] : List (S64))) 0 a0_0 a0_1 a0_2 a0_3 l0_4 l0_5 l0_6 a0_7 a1_0 l1_1 l1_2) = some r := h
 clear h
 obtain ⟨y155, hy155⟩ : ∃ y_ : List (S64), y_ = (([] : List (S64))) := ⟨_, rfl⟩
 replace H : (spec_l8Ids.l0 k y155 0 a0_0 a0_1 a0_2 a0_3 l0_4 l0_5 l0_6 a0_7 a1_0 l1_1 l1_2) = some r := by first | (rw [hy155]; with_reducible exact H) | (have H2_ := (Option.bind_some _ _).symm.trans H; rw [hy155]; with_reducible exact H2_) | (have H2_ := (Option.bind_some _ _).symm.trans H; with_reducible exact H2_) | with_reducible exact H | (rw [hy155]; exact H) | exact H
 have Ny155 := Aside0.mk hy155
 clear hy155
 have H' := Aside0.mk H
 clear H
 go_enter Tryd.func22, Tryd.ntmps22
 go_wp2_with (first | ((with_reducible refine gate_dst (N := 2) rfl ?_); refine box_event ?hg (N := 2) ?hd (cs := #[.int .i64 a0_0, .string a0_1, .string a0_2, .string a0_3, .slice A0_4 l0_4.length c0_4, .slice A0_5 l0_5.length c0_5, .slice A0_6 l0_6.length c0_6, .string a0_7]) (t := 38) ?hr ?_; (case hd => rfl); (case hg => rfl); (case hr => first | (go_simp; done) | (go_simp; rfl)); intro gb153 hg w3 hbox hb; have BK153 := Aside0.mk (hbox); have GW153 := Aside0.mk ((by rw [hg]; exact (below_size hB) : w.heap.size ≤ gb153)); have GE153 := Aside0.mk ((by rw [hg]; exact (below_size hB) : w.heap.size ≤ gb153)); replace HB := Aside0.mk (below_step hB hb); clear hb hbox hg) | ((with_reducible refine gate_dst (N := 3) rfl ?_); refine box_event ?hg (N := 3) ?hd (cs := #[.string a1_0, .slice A1_1 l1_1.length c1_1, .slice A1_2 l1_2.length c1_2]) (t := 43) ?hr ?_; (case hd => rfl); (case hg => rfl); (case hr => first | (go_simp; done) | (go_simp; rfl)); intro gb154 hg w4 hbox hb; have BK154 := Aside0.mk (hbox); have GW154 := Aside0.mk ((by rw [hg]; exact (below_size hB) : w.heap.size ≤ gb154)); have GE154 := Aside0.mk ((by rw [hg]; exact (below_size hB) : w.heap.size ≤ gb154)); replace HB := Aside0.mk (below_step hB hb); have NB153_154 := Aside0.mk ((by rw [hg]; exact Nat.ne_of_lt (blk_lt (g := gb153) (by (with_reducible repeat (first | refine bN ?_ _|refine bD ?_|refine bA ?_ _)); exact BK153.out)) : gb153 ≠ gb154)); have NB154_153 := Aside0.mk ((by rw [hg]; exact Nat.ne_of_gt (blk_lt (g := gb153) (by (with_reducible repeat (first | refine bN ?_ _|refine bD ?_|refine bA ?_ _)); exact BK153.out)) : gb154 ≠ gb153)); replace BK153 := Aside0.mk (blk_below (g := gb153) (by (with_reducible repeat (first | refine bN ?_ _|refine bD ?_|refine bA ?_ _)); exact BK153.out) hb); clear hb hbox hg) | ((with_reducible refine gate_dst (N := 11) rfl ?_); refine Kd.R_lit k64 _ 64 ?hg (N := 11) ?hd (xs := ([] : List (S64))) (inner := []) (ok := fun _ => True) (okp := fun _ => True) ?hr ?hp (fun _ hk => hk) trivial (Below.refl _ _) (Nat.le_refl _) (by simp) ?_; (case hd => rfl); (case hg => rfl); (case hr => first | (go_simp; done) | (go_simp; rfl)); (case hp => exact (Reps.none _ _)); intro v156 w5 ho6 hb hg_ hnew_; clear hg_ hnew_; (first | rw [← Ny155.out] at ho6 | (simp only [Int.reduceToNat] at ho6; rw [← Ny155.out] at ho6)); have HO157 := Aside0.mk (Kd.R_lower ho6 (below_size hB)); replace BK153 := Aside0.mk (blk_below (g := gb153) (by (with_reducible repeat (first | refine bN ?_ _|refine bD ?_|refine bA ?_ _)); exact BK153.out) hb); replace BK154 := Aside0.mk (blk_below (g := gb154) (by (with_reducible repeat (first | refine bN ?_ _|refine bD ?_|refine bA ?_ _)); exact BK154.out) hb); replace HB := Aside0.mk (below_step hB hb); clear hb ho6))
 go_loopg [5, 6] k (fun kq v5 v6 w' => ∃ (x5_1 : List (S64)) (x6_1 : Int), v6 = .int .i64 x6_1 ∧ Aside0 (spec_l8Ids.l0 kq x5_1 x6_1 a0_0 a0_1 a0_2 a0_3 l0_4 l0_5 l0_6 a0_7 a1_0 l1_1 l1_2 = some r) ∧ Aside0 (kq ≤ k) ∧ Aside0 (Kd.R k64 64 w' w.heap.size (fun _ => True) v5 x5_1) ∧ Aside0 (w'.heap[gb153]? = some (.cells #[.int .i64 a0_0, .string a0_1, .string a0_2, .string a0_3, (.slice A0_4 l0_4.length c0_4), (.slice A0_5 l0_5.length c0_5), (.slice A0_6 l0_6.length c0_6), .string a0_7] 38 (0, 0))) ∧ Aside0 (w'.heap[gb154]? = some (.cells #[.string a1_0, (.slice A1_1 l1_1.length c1_1), (.slice A1_2 l1_2.length c1_2)] 43 (0, 0))) ∧ Aside0 (Below w.heap.size w w'))
 case atStart => exact ⟨(y155), (0), rG, H', ⟨Nat.le_refl _⟩, ⟨by (with_reducible repeat (first|apply rA|apply rN|apply rD)); exact HO157.out⟩, ⟨by (with_reducible repeat (first | refine bN ?_ _|refine bD ?_|refine bA ?_ _)); exact BK153.out⟩, ⟨by (with_reducible repeat (first | refine bN ?_ _|refine bD ?_|refine bA ?_ _)); exact BK154.out⟩, ⟨hB⟩⟩
 case round =>
  clear H'
  obtain ⟨x5_1, x6_1, rfl, HA, HK1, HO_5, BK153, BK154, HB⟩ := hrel
  cases gk with
  | zero => exact absurd HA.out (by simp [spec_l8Ids.l0])
  | succ k1 =>
   have H := HA.out
   clear HA
   simp only [spec_l8Ids.l0] at H
   by_cases c7 : x6_1 < (l0_5.length : Int)
   ·rw [if_pos c7] at H
    have c7b0 : decide (x6_1 < (l0_5.length : Int)) = true := decide_eq_true c7
    clear c7
    obtain ⟨c8, H⟩ := if_som H
    have c8b0 : decide (0 ≤ x6_1) = true := decide_eq_true c8
    clear c8
    replace H := Option.bind_eq_some_iff.mp H
    obtain ⟨t160, A90, H⟩ := H
    try dsimp only at H
    have A9 := Aside0.mk A90
    clear A90
    replace H := Option.bind_eq_some_iff.mp H
    obtain ⟨t161, A100, H⟩ := H
    try dsimp only at H
    have A10 := Aside0.mk A100
    clear A100
    replace H := Option.bind_eq_some_iff.mp H
    obtain ⟨⟨t162, t163, t164, t165, t166, t167⟩, A110, H⟩ := H
    try dsimp only at H
    have A11 := Aside0.mk A110
    clear A110
    have hnb12 := NB153_154.out
    have hnc12 := NB154_153.out
    obtain ⟨hcz13_0, hcz13_1, hcz13_2, hcz13_3, hcz13_4, hcz13_5, hcz13_6, hcz13_7⟩ := bc8 BK153.out
    obtain ⟨hfz13_0, hfz13_1, hfz13_2, hfz13_3, hfz13_4, hfz13_5, hfz13_6, hfz13_7⟩ := bf8 BK153.out
    have p158 : 0 ≤ (x6_1 : Int) := odt
    have q158 : x6_1 < (l0_5.length : Int) := odt
    obtain ⟨ad158, e158, hx158_0, hx158_1, hx158_2, hx158_3⟩ := at_T64 HR0_5.out x6_1 p158 q158
    cases e158
    replace hx158_0 := pw_cell_below HB.out hx158_0
    replace hx158_1 := pw_cell_below HB.out hx158_1
    replace hx158_2 := pw_cell_below HB.out hx158_2
    replace hx158_3 := pw_cell_below HB.out hx158_3
    replace p158 := eq_true p158
    replace q158 := eq_true q158
    try go_wp2_with (first | ((with_reducible refine gate_dst (N := 7) rfl ?_); refine box_event ?hg (N := 7) ?hd (cs := #[.string (⟨#[]⟩ : ByteArray), .string (⟨#[]⟩ : ByteArray), .string (⟨#[]⟩ : ByteArray), .string (⟨#[]⟩ : ByteArray)]) (t := 64) ?hr ?_; (case hd => rfl); (case hg => rfl); (case hr => first | (go_simp; done) | (go_simp; rfl)); intro gb159 hg w14 hbox hb; replace HO_5 := Aside0.mk (Kd.R_below (Kd.R_elderB (by (with_reducible repeat (first|apply rA|apply rN|apply rD)); exact HO_5.out) gb159 (Nat.le_of_eq hg.symm)) hb); have BK159 := Aside0.mk (hbox); have GW159 := Aside0.mk ((by rw [hg]; exact (below_size hB) : w.heap.size ≤ gb159)); have GE159 := Aside0.mk ((by rw [hg]; exact (below_size hB) : w.heap.size ≤ gb159)); replace HB := Aside0.mk (below_step hB hb); have NB153_159 := Aside0.mk ((by rw [hg]; exact Nat.ne_of_lt (blk_lt (g := gb153) (by (with_reducible repeat (first | refine bN ?_ _|refine bD ?_|refine bA ?_ _)); exact BK153.out)) : gb153 ≠ gb159)); have NB159_153 := Aside0.mk ((by rw [hg]; exact Nat.ne_of_gt (blk_lt (g := gb153) (by (with_reducible repeat (first | refine bN ?_ _|refine bD ?_|refine bA ?_ _)); exact BK153.out)) : gb159 ≠ gb153)); replace BK153 := Aside0.mk (blk_below (g := gb153) (by (with_reducible repeat (first | refine bN ?_ _|refine bD ?_|refine bA ?_ _)); exact BK153.out) hb); have NB154_159 := Aside0.mk ((by rw [hg]; exact Nat.ne_of_lt (blk_lt (g := gb154) (by (with_reducible repeat (first | refine bN ?_ _|refine bD ?_|refine bA ?_ _)); exact BK154.out)) : gb154 ≠ gb159)); have NB159_154 := Aside0.mk ((by rw [hg]; exact Nat.ne_of_gt (blk_lt (g := gb154) (by (with_reducible repeat (first | refine bN ?_ _|refine bD ?_|refine bA ?_ _)); exact BK154.out)) : gb159 ≠ gb154)); replace BK154 := Aside0.mk (blk_below (g := gb154) (by (with_reducible repeat (first | refine bN ?_ _|refine bD ?_|refine bA ?_ _)); exact BK154.out) hb); clear hb hbox hg; have hnb15 := NB159_153.out; have hnc15 := NB153_159.out; have hnb16 := NB159_154.out; have hnc16 := NB154_159.out; obtain ⟨hcz17_0, hcz17_1, hcz17_2, hcz17_3⟩ := bc4 BK159.out; obtain ⟨hfz17_0, hfz17_1, hfz17_2, hfz17_3⟩ := bf4 BK159.out))
    have n0_ : Aside0 (Kd.R k64 64 ((((w14.setCell ⟨gb159, 0, none⟩ (.string ((rd_T64 l0_5 x6_1).f0))).setCell ⟨gb159, 1, none⟩ (.string ((rd_T64 l0_5 x6_1).f1))).setCell ⟨gb159, 2, none⟩ (.string ((rd_T64 l0_5 x6_1).f2))).setCell ⟨gb159, 3, none⟩ (.string ((rd_T64 l0_5 x6_1).f3))) w.heap.size (fun k_ => k_ ≠ gb159) u5 x5_1) := ⟨by (with_reducible repeat (first|apply rA|apply rN|apply rD)); exact Kd.R_mono (Kd.R_far (p := ⟨gb159, 3, none⟩) (Kd.R_far (p := ⟨gb159, 2, none⟩) (Kd.R_far (p := ⟨gb159, 1, none⟩) (Kd.R_far (p := ⟨gb159, 0, none⟩) (Kd.R_mono HO_5.out (fun k_ hk => (⟨hk, hk.2⟩ : _ ∧ k_ ≠ gb159))) (fun _ hk => hk.2) (.string ((rd_T64 l0_5 x6_1).f0))) (fun _ hk => hk.2) (.string ((rd_T64 l0_5 x6_1).f1))) (fun _ hk => hk.2) (.string ((rd_T64 l0_5 x6_1).f2))) (fun _ hk => hk.2) (.string ((rd_T64 l0_5 x6_1).f3))) (fun _ hk => hk.1.2)⟩
    have n1_ : Aside0 (((((w14.setCell ⟨gb159, 0, none⟩ (.string ((rd_T64 l0_5 x6_1).f0))).setCell ⟨gb159, 1, none⟩ (.string ((rd_T64 l0_5 x6_1).f1))).setCell ⟨gb159, 2, none⟩ (.string ((rd_T64 l0_5 x6_1).f2))).setCell ⟨gb159, 3, none⟩ (.string ((rd_T64 l0_5 x6_1).f3))).heap[gb153]? = some (.cells #[.int .i64 a0_0, .string a0_1, .string a0_2, .string a0_3, .slice A0_4 l0_4.length c0_4, .slice (some ad158) l0_5.length c0_5, .slice A0_6 l0_6.length c0_6, .string a0_7] 38 (0, 0))) := ⟨by (with_reducible repeat (first | refine bN ?_ _|refine bD ?_|refine bA ?_ _)); exact pfa4 (hn := NB153_159.out) (by (with_reducible repeat (first | refine bN ?_ _|refine bD ?_|refine bA ?_ _)); exact BK153.out)⟩
    have n2_ : Aside0 (((((w14.setCell ⟨gb159, 0, none⟩ (.string ((rd_T64 l0_5 x6_1).f0))).setCell ⟨gb159, 1, none⟩ (.string ((rd_T64 l0_5 x6_1).f1))).setCell ⟨gb159, 2, none⟩ (.string ((rd_T64 l0_5 x6_1).f2))).setCell ⟨gb159, 3, none⟩ (.string ((rd_T64 l0_5 x6_1).f3))).heap[gb154]? = some (.cells #[.string a1_0, .slice A1_1 l1_1.length c1_1, .slice A1_2 l1_2.length c1_2] 43 (0, 0))) := ⟨by (with_reducible repeat (first | refine bN ?_ _|refine bD ?_|refine bA ?_ _)); exact pfa4 (hn := NB154_159.out) (by (with_reducible repeat (first | refine bN ?_ _|refine bD ?_|refine bA ?_ _)); exact BK154.out)⟩
    have n3_ : Aside0 (((((w14.setCell ⟨gb159, 0, none⟩ (.string ((rd_T64 l0_5 x6_1).f0))).setCell ⟨gb159, 1, none⟩ (.string ((rd_T64 l0_5 x6_1).f1))).setCell ⟨gb159, 2, none⟩ (.string ((rd_T64 l0_5 x6_1).f2))).setCell ⟨gb159, 3, none⟩ (.string ((rd_T64 l0_5 x6_1).f3))).heap[gb159]? = some (.cells #[.string ((rd_T64 l0_5 x6_1).f0), .string ((rd_T64 l0_5 x6_1).f1), .string ((rd_T64 l0_5 x6_1).f2), .string ((rd_T64 l0_5 x6_1).f3)] 64 (0, 0))) := ⟨by (with_reducible repeat (first | refine bN ?_ _|refine bD ?_|refine bA ?_ _)); exact put4 (by (with_reducible repeat (first | refine bN ?_ _|refine bD ?_|refine bA ?_ _)); exact BK159.out)⟩
    have n4_ : Aside0 (Below w.heap.size w ((((w14.setCell ⟨gb159, 0, none⟩ (.string ((rd_T64 l0_5 x6_1).f0))).setCell ⟨gb159, 1, none⟩ (.string ((rd_T64 l0_5 x6_1).f1))).setCell ⟨gb159, 2, none⟩ (.string ((rd_T64 l0_5 x6_1).f2))).setCell ⟨gb159, 3, none⟩ (.string ((rd_T64 l0_5 x6_1).f3)))) := ⟨hB⟩
    (try clear HO_5)
    (try clear BK153)
    (try clear BK154)
    (try clear BK159)
    (try clear HB)
    generalize ((((w14.setCell ⟨gb159, 0, none⟩ (.string ((rd_T64 l0_5 x6_1).f0))).setCell ⟨gb159, 1, none⟩ (.string ((rd_T64 l0_5 x6_1).f1))).setCell ⟨gb159, 2, none⟩ (.string ((rd_T64 l0_5 x6_1).f2))).setCell ⟨gb159, 3, none⟩ (.string ((rd_T64 l0_5 x6_1).f3))) = w18 at n0_ n1_ n2_ n3_ n4_ ⊢
    have HO_5 := n0_
    have BK153 := n1_
    have BK154 := n2_
    have BK159 := n3_
    have HB := n4_
    clear n0_ n1_ n2_ n3_ n4_
    replace HO_5 := Aside0.mk (Kd.R_drew HO_5.out)
    replace BK153 := Aside0.mk (blk_drew BK153.out)
    replace BK154 := Aside0.mk (blk_drew BK154.out)
    replace BK159 := Aside0.mk (blk_drew BK159.out)
    replace HB := Aside0.mk (below_drew1 HB.out)
    refine start_ (n := 19) (S := fun w' => w'.cell? ⟨gb154, 0, none⟩ = some (.string a1_0) ∧ w'.cell? ⟨gb154, 1, none⟩ = some (.slice A1_1 l1_1.length c1_1) ∧ w'.cell? ⟨gb154, 2, none⟩ = some (.slice A1_2 l1_2.length c1_2) ∧ w'.cell? ⟨gb153, 0, none⟩ = some (.int .i64 a0_0) ∧ w'.cell? ⟨gb153, 1, none⟩ = some (.string a0_1) ∧ w'.cell? ⟨gb153, 2, none⟩ = some (.string a0_2) ∧ w'.cell? ⟨gb153, 3, none⟩ = some (.string a0_3) ∧ w'.cell? ⟨gb153, 4, none⟩ = some (.slice A0_4 l0_4.length c0_4) ∧ w'.cell? ⟨gb153, 5, none⟩ = some (.slice (some ad158) l0_5.length c0_5) ∧ w'.cell? ⟨gb153, 6, none⟩ = some (.slice A0_6 l0_6.length c0_6) ∧ w'.cell? ⟨gb153, 7, none⟩ = some (.string a0_7) ∧ w'.cell? ⟨gb159, 0, none⟩ = some (.string ((rd_T64 l0_5 x6_1).f0)) ∧ w'.cell? ⟨gb159, 1, none⟩ = some (.string ((rd_T64 l0_5 x6_1).f1)) ∧ w'.cell? ⟨gb159, 2, none⟩ = some (.string ((rd_T64 l0_5 x6_1).f2)) ∧ w'.cell? ⟨gb159, 3, none⟩ = some (.string ((rd_T64 l0_5 x6_1).f3))) (ds := []) #[false, false, false, false, false, false, false, false, false, false, false, false, false, false, false, false, false, false, false] (by kernel_rfl) rfl rfl ⟨(blk_cell BK154.out 0).trans rfl, (blk_cell BK154.out 1).trans rfl, (blk_cell BK154.out 2).trans rfl, (blk_cell BK153.out 0).trans rfl, (blk_cell BK153.out 1).trans rfl, (blk_cell BK153.out 2).trans rfl, (blk_cell BK153.out 3).trans rfl, (blk_cell BK153.out 4).trans rfl, (blk_cell BK153.out 5).trans rfl, (blk_cell BK153.out 6).trans rfl, (blk_cell BK153.out 7).trans rfl, (blk_cell BK159.out 0).trans rfl, (blk_cell BK159.out 1).trans rfl, (blk_cell BK159.out 2).trans rfl, (blk_cell BK159.out 3).trans rfl⟩ (fun hHeld => ?_); refine with_tabW spec_l8Ids.tab6 spec_l8Ids.bits6 (fun HT_ HW_ => ?_)
    generalize w18.drew = w19 at HO_5 BK153 BK154 BK159 HB hHeld ⊢
    refine pU 0 25 (tf 1 18) ?_
    refine pU 2 27 #[true, false, true, false, false, false, false, false, false, false, false, false, false, false, false, false, false, false, false] ?_
    refine pU 4 29 #[true, false, true, false, true, false, false, false, false, false, false, false, false, false, false, false, false, false, false] ?_
    refine pU 7 32 #[true, false, true, false, true, false, false, true, false, false, false, false, false, false, false, false, false, false, false] ?_
    refine pU 9 34 #[true, false, true, false, true, false, false, true, false, true, false, false, false, false, false, false, false, false, false] ?_
    refine take_ (i := 1) (N := some 26) (v := ?_) (a' := ?_) #[true, true, true, false, true, false, false, true, false, true, false, false, false, false, false, false, false, false, false] rfl rfl (take_ofW HT_.out HW_.out (by kernel_rfl)) (fun _ _ _ h => h) (Or.inl ⟨by rfl, ?_⟩) hHeld ?_ ?_
    rotate_left
    ·rintro w' ⟨s0, s1, s2, s3, s4, s5, s6, s7, s8, s9, s10, s11, s12, s13, s14⟩
     go_simp
     with_reducible rfl
    rotate_left
    ·simp only [Act.put, sT, sZ, sS, i64_w, i32_w]
     rfl
    refine take_ (i := 3) (N := some 28) (v := ?_) (a' := ?_) #[true, true, true, true, true, false, false, true, false, true, false, false, false, false, false, false, false, false, false] rfl rfl (take_ofW HT_.out HW_.out (by kernel_rfl)) (fun _ _ _ h => h) (Or.inl ⟨by rfl, ?_⟩) hHeld ?_ ?_
    rotate_left
    ·rintro w' ⟨s0, s1, s2, s3, s4, s5, s6, s7, s8, s9, s10, s11, s12, s13, s14⟩
     go_simp
     with_reducible rfl
    rotate_left
    ·simp only [Act.put, sT, sZ, sS, i64_w, i32_w]
     rfl
    refine take_ (i := 5) (N := some 30) (v := ?_) (a' := ?_) #[true, true, true, true, true, true, false, true, false, true, false, false, false, false, false, false, false, false, false] rfl rfl (take_ofW HT_.out HW_.out (by kernel_rfl)) (fun _ _ _ h => h) (Or.inl ⟨by rfl, ?_⟩) hHeld ?_ ?_
    rotate_left
    ·rintro w' ⟨s0, s1, s2, s3, s4, s5, s6, s7, s8, s9, s10, s11, s12, s13, s14⟩
     go_simp
     with_reducible rfl
    rotate_left
    ·simp only [Act.put, sT, sZ, sS, i64_w, i32_w]
     rfl
    refine take_ (i := 8) (N := some 33) (v := ?_) (a' := ?_) #[true, true, true, true, true, true, false, true, true, true, false, false, false, false, false, false, false, false, false] rfl rfl (take_ofW HT_.out HW_.out (by kernel_rfl)) (fun _ _ _ h => h) (Or.inl ⟨by rfl, ?_⟩) hHeld ?_ ?_
    rotate_left
    ·rintro w' ⟨s0, s1, s2, s3, s4, s5, s6, s7, s8, s9, s10, s11, s12, s13, s14⟩
     go_simp
     with_reducible rfl
    rotate_left
    ·simp only [Act.put, sT, sZ, sS, i64_w, i32_w]
     rfl
    refine take_ (i := 10) (N := some 35) (v := ?_) (a' := ?_) #[true, true, true, true, true, true, false, true, true, true, true, false, false, false, false, false, false, false, false] rfl rfl (take_ofW HT_.out HW_.out (by kernel_rfl)) (fun _ _ _ h => h) (Or.inl ⟨by rfl, ?_⟩) hHeld ?_ ?_
    rotate_left
    ·rintro w' ⟨s0, s1, s2, s3, s4, s5, s6, s7, s8, s9, s10, s11, s12, s13, s14⟩
     go_simp
     with_reducible rfl
    rotate_left
    ·simp only [Act.put, sT, sZ, sS, i64_w, i32_w]
     rfl
    refine join_ (σ := Nat) 2 (tf 17 2) (fun s_ => [(31, .string t160), (36, .string t161), (37, .tuple #[.agg #[.string t162, .string t163, .bool t164, .bool t165, .string t166], .bool t167]), (8, .pointer (some ⟨s_, 0, none⟩)), (24, .tuple #[.agg #[.string t162, .string t163, .bool t164, .bool t165, .string t166], .bool t167]), (38, .agg #[.string t162, .string t163, .bool t164, .bool t165, .string t166]), (39, .bool t167)]) (fun s_ w' => (w'.cell? ⟨gb154, 0, none⟩ = some (.string a1_0) ∧ w'.cell? ⟨gb154, 1, none⟩ = some (.slice A1_1 l1_1.length c1_1) ∧ w'.cell? ⟨gb154, 2, none⟩ = some (.slice A1_2 l1_2.length c1_2) ∧ w'.cell? ⟨gb153, 0, none⟩ = some (.int .i64 a0_0) ∧ w'.cell? ⟨gb153, 1, none⟩ = some (.string a0_1) ∧ w'.cell? ⟨gb153, 2, none⟩ = some (.string a0_2) ∧ w'.cell? ⟨gb153, 3, none⟩ = some (.string a0_3) ∧ w'.cell? ⟨gb153, 4, none⟩ = some (.slice A0_4 l0_4.length c0_4) ∧ w'.cell? ⟨gb153, 5, none⟩ = some (.slice (some ad158) l0_5.length c0_5) ∧ w'.cell? ⟨gb153, 6, none⟩ = some (.slice A0_6 l0_6.length c0_6) ∧ w'.cell? ⟨gb153, 7, none⟩ = some (.string a0_7) ∧ w'.cell? ⟨gb159, 0, none⟩ = some (.string ((rd_T64 l0_5 x6_1).f0)) ∧ w'.cell? ⟨gb159, 1, none⟩ = some (.string ((rd_T64 l0_5 x6_1).f1)) ∧ w'.cell? ⟨gb159, 2, none⟩ = some (.string ((rd_T64 l0_5 x6_1).f2)) ∧ w'.cell? ⟨gb159, 3, none⟩ = some (.string ((rd_T64 l0_5 x6_1).f3))) ∧ (Kd.R k64 64 w' w.heap.size (fun k_ => k_ ≠ gb159) u5 x5_1) ∧ (w'.heap[gb153]? = some (.cells #[.int .i64 a0_0, .string a0_1, .string a0_2, .string a0_3, .slice A0_4 l0_4.length c0_4, .slice (some ad158) l0_5.length c0_5, .slice A0_6 l0_6.length c0_6, .string a0_7] 38 (0, 0))) ∧ (w'.heap[gb154]? = some (.cells #[.string a1_0, .slice A1_1 l1_1.length c1_1, .slice A1_2 l1_2.length c1_2] 43 (0, 0))) ∧ (w'.heap[gb159]? = some (.cells #[.string ((rd_T64 l0_5 x6_1).f0), .string ((rd_T64 l0_5 x6_1).f1), .string ((rd_T64 l0_5 x6_1).f2), .string ((rd_T64 l0_5 x6_1).f3)] 64 (0, 0))) ∧ (w'.heap[s_]? = some (.cells #[.string (⟨#[]⟩ : ByteArray), .string (⟨#[]⟩ : ByteArray), .bool false, .bool false, .string (⟨#[]⟩ : ByteArray)] 85 (0, 0))) ∧ (w.heap.size ≤ s_) ∧ (w.heap.size ≤ s_) ∧ (gb153 ≠ s_) ∧ (s_ ≠ gb153) ∧ (gb154 ≠ s_) ∧ (s_ ≠ gb154) ∧ (gb159 ≠ s_) ∧ (s_ ≠ gb159) ∧ (Below w.heap.size w w')) ?_ ?_
    rotate_left
    ·intro hCont
     refine two_ (i := 6) (j := 16) (Ni := some 31) (Nj := some 8) (tf 11 8) #[true, true, true, true, true, true, false, true, true, true, true, false, false, false, false, false, true, false, false] rfl rfl rfl rfl (two_of HT_.out (by kernel_rfl)) (by decide) (by decide) (fun K hK => ?_) (fun K hK => ?_)
     ·skip
      refine goes_ Tryd.func44 (by kernel_rfl) rfl #[.string a0_1, .string a0_2] (by rfl) rfl rfl mA ?_
      with_reducible refine (spec_JoinName.calls k1 a0_1 a0_2 t160 _ A9.out).mono ?_
      rintro e w20 ⟨rfl, hb⟩
      refine ⟨_, rfl, ?_⟩
      replace HO_5 := Aside0.mk (Kd.R_below (by (with_reducible repeat (first|apply rA|apply rN|apply rD)); exact HO_5.out) hb)
      replace BK153 := Aside0.mk (blk_below (g := gb153) (by (with_reducible repeat (first | refine bN ?_ _|refine bD ?_|refine bA ?_ _)); exact BK153.out) hb)
      replace BK154 := Aside0.mk (blk_below (g := gb154) (by (with_reducible repeat (first | refine bN ?_ _|refine bD ?_|refine bA ?_ _)); exact BK154.out) hb)
      replace BK159 := Aside0.mk (blk_below (g := gb159) (by (with_reducible repeat (first | refine bN ?_ _|refine bD ?_|refine bA ?_ _)); exact BK159.out) hb)
      replace HB := Aside0.mk (below_step hB hb)
      (try clear hb)
      (try clear hb2)
      (try clear hk)
      (try clear hi)
      refine hK.out _ _ ⟨(blk_cell BK154.out 0).trans rfl, (blk_cell BK154.out 1).trans rfl, (blk_cell BK154.out 2).trans rfl, (blk_cell BK153.out 0).trans rfl, (blk_cell BK153.out 1).trans rfl, (blk_cell BK153.out 2).trans rfl, (blk_cell BK153.out 3).trans rfl, (blk_cell BK153.out 4).trans rfl, (blk_cell BK153.out 5).trans rfl, (blk_cell BK153.out 6).trans rfl, (blk_cell BK153.out 7).trans rfl, (blk_cell BK159.out 0).trans rfl, (blk_cell BK159.out 1).trans rfl, (blk_cell BK159.out 2).trans rfl, (blk_cell BK159.out 3).trans rfl⟩ (fun hHeld => ?_)
      clear hK K
      refine norm_ (a' := ?_) ?_ ?_
      rotate_left
      ·show Act.put _ (some 31) _ = _
       simp only [Act.put, sT, sZ, sS, i64_w, i32_w]
       rfl
      refine two_ (i := 11) (j := 16) (Ni := some 36) (Nj := some 8) (tf 12 7) #[true, true, true, true, true, true, true, true, true, true, true, false, false, false, false, false, true, false, false] rfl rfl rfl rfl (two_of HT_.out (by kernel_rfl)) (by decide) (by decide) (fun K hK => ?_) (fun K hK => ?_)
      ·skip
       refine goes_ Tryd.func44 (by kernel_rfl) rfl #[.string ((rd_T64 l0_5 x6_1).f0), .string ((rd_T64 l0_5 x6_1).f1)] (by rfl) rfl rfl mA ?_
       with_reducible refine (spec_JoinName.calls k1 ((rd_T64 l0_5 x6_1).f0) ((rd_T64 l0_5 x6_1).f1) t161 _ A10.out).mono ?_
       rintro e w21 ⟨rfl, hb⟩
       refine ⟨_, rfl, ?_⟩
       replace HO_5 := Aside0.mk (Kd.R_below (by (with_reducible repeat (first|apply rA|apply rN|apply rD)); exact HO_5.out) hb)
       replace BK153 := Aside0.mk (blk_below (g := gb153) (by (with_reducible repeat (first | refine bN ?_ _|refine bD ?_|refine bA ?_ _)); exact BK153.out) hb)
       replace BK154 := Aside0.mk (blk_below (g := gb154) (by (with_reducible repeat (first | refine bN ?_ _|refine bD ?_|refine bA ?_ _)); exact BK154.out) hb)
       replace BK159 := Aside0.mk (blk_below (g := gb159) (by (with_reducible repeat (first | refine bN ?_ _|refine bD ?_|refine bA ?_ _)); exact BK159.out) hb)
       replace HB := Aside0.mk (below_step hB hb)
       (try clear hb)
       (try clear hb2)
       (try clear hk)
       (try clear hi)
       refine hK.out _ _ ⟨(blk_cell BK154.out 0).trans rfl, (blk_cell BK154.out 1).trans rfl, (blk_cell BK154.out 2).trans rfl, (blk_cell BK153.out 0).trans rfl, (blk_cell BK153.out 1).trans rfl, (blk_cell BK153.out 2).trans rfl, (blk_cell BK153.out 3).trans rfl, (blk_cell BK153.out 4).trans rfl, (blk_cell BK153.out 5).trans rfl, (blk_cell BK153.out 6).trans rfl, (blk_cell BK153.out 7).trans rfl, (blk_cell BK159.out 0).trans rfl, (blk_cell BK159.out 1).trans rfl, (blk_cell BK159.out 2).trans rfl, (blk_cell BK159.out 3).trans rfl⟩ (fun hHeld => ?_)
       clear hK K
       refine norm_ (a' := ?_) ?_ ?_
       rotate_left
       ·show Act.put _ (some 36) _ = _
        simp only [Act.put, sT, sZ, sS, i64_w, i32_w]
        rfl
       refine two_ (i := 12) (j := 16) (Ni := some 37) (Nj := some 8) (tf 13 6) #[true, true, true, true, true, true, true, true, true, true, true, true, false, false, false, false, true, false, false] rfl rfl rfl rfl (two_of HT_.out (by kernel_rfl)) (by decide) (by decide) (fun K hK => ?_) (fun K hK => ?_)
       ·skip
        refine goes_ Tryd.func43 (by kernel_rfl) rfl #[.slice A1_2 l1_2.length c1_2, .string t160, .string t161] (by rfl) rfl rfl mA ?_
        with_reducible refine (spec_DefOf.calls k1 _ _ l1_2 t160 t161 t162 t163 t164 t165 t166 t167 _ ?side1 ?side2 A11.out).mono ?_
        (case side1 => repeat (first | exact (Kd.C_below HR1_2.out HB.out) | (with_reducible refine Kd.C_alloc ?_ _) | (with_reducible refine Kd.C_drewN ?_ _) | (with_reducible refine Kd.C_drew ?_)))
        (case side2 => exact HC1_2.out)
        rintro e w22 ⟨rfl, hb⟩
        refine ⟨_, rfl, ?_⟩
        replace HO_5 := Aside0.mk (Kd.R_below (by (with_reducible repeat (first|apply rA|apply rN|apply rD)); exact HO_5.out) hb)
        replace BK153 := Aside0.mk (blk_below (g := gb153) (by (with_reducible repeat (first | refine bN ?_ _|refine bD ?_|refine bA ?_ _)); exact BK153.out) hb)
        replace BK154 := Aside0.mk (blk_below (g := gb154) (by (with_reducible repeat (first | refine bN ?_ _|refine bD ?_|refine bA ?_ _)); exact BK154.out) hb)
        replace BK159 := Aside0.mk (blk_below (g := gb159) (by (with_reducible repeat (first | refine bN ?_ _|refine bD ?_|refine bA ?_ _)); exact BK159.out) hb)
        replace HB := Aside0.mk (below_step hB hb)
        (try clear hb)
        (try clear hb2)
        (try clear hk)
        (try clear hi)
        refine hK.out _ _ ⟨(blk_cell BK154.out 0).trans rfl, (blk_cell BK154.out 1).trans rfl, (blk_cell BK154.out 2).trans rfl, (blk_cell BK153.out 0).trans rfl, (blk_cell BK153.out 1).trans rfl, (blk_cell BK153.out 2).trans rfl, (blk_cell BK153.out 3).trans rfl, (blk_cell BK153.out 4).trans rfl, (blk_cell BK153.out 5).trans rfl, (blk_cell BK153.out 6).trans rfl, (blk_cell BK153.out 7).trans rfl, (blk_cell BK159.out 0).trans rfl, (blk_cell BK159.out 1).trans rfl, (blk_cell BK159.out 2).trans rfl, (blk_cell BK159.out 3).trans rfl⟩ (fun hHeld => ?_)
        clear hK K
        refine norm_ (a' := ?_) ?_ ?_
        rotate_left
        ·show Act.put _ (some 37) _ = _
         simp only [Act.put, sT, sZ, sS, i64_w, i32_w]
         rfl
        refine pU 13 24 (tf 14 5) ?_
        refine pU 14 38 (tf 15 4) ?_
        refine pU 15 39 (tf 16 3) ?_
        refine one_ (i := 16) (N := some 8) (tf 17 2) rfl rfl (one_of HT_.out (by kernel_rfl)) (by decide) (fun K hK => ?_)
        refine box_step ?hg (N := 8) ?hd (cs := #[.string (⟨#[]⟩ : ByteArray), .string (⟨#[]⟩ : ByteArray), .bool false, .bool false, .string (⟨#[]⟩ : ByteArray)]) (t := 85) ?hr ?_; (case hd => rfl); (case hg => rfl); (case hr => first | (go_simp; done) | (go_simp; rfl))
        intro gb168 hg w23 hbox hb
        replace HO_5 := Aside0.mk (Kd.R_below (by (with_reducible repeat (first|apply rA|apply rN|apply rD)); exact HO_5.out) hb)
        have BK168 := Aside0.mk (hbox)
        have GW168 := Aside0.mk ((by rw [hg]; exact (below_size hB) : w.heap.size ≤ gb168))
        have GE168 := Aside0.mk ((by rw [hg]; exact (below_size hB) : w.heap.size ≤ gb168))
        replace HB := Aside0.mk (below_step hB hb)
        have NB153_168 := Aside0.mk ((by rw [hg]; exact Nat.ne_of_lt (blk_lt (g := gb153) (by (with_reducible repeat (first | refine bN ?_ _|refine bD ?_|refine bA ?_ _)); exact BK153.out)) : gb153 ≠ gb168))
        have NB168_153 := Aside0.mk ((by rw [hg]; exact Nat.ne_of_gt (blk_lt (g := gb153) (by (with_reducible repeat (first | refine bN ?_ _|refine bD ?_|refine bA ?_ _)); exact BK153.out)) : gb168 ≠ gb153))
        replace BK153 := Aside0.mk (blk_below (g := gb153) (by (with_reducible repeat (first | refine bN ?_ _|refine bD ?_|refine bA ?_ _)); exact BK153.out) hb)
        have NB154_168 := Aside0.mk ((by rw [hg]; exact Nat.ne_of_lt (blk_lt (g := gb154) (by (with_reducible repeat (first | refine bN ?_ _|refine bD ?_|refine bA ?_ _)); exact BK154.out)) : gb154 ≠ gb168))
        have NB168_154 := Aside0.mk ((by rw [hg]; exact Nat.ne_of_gt (blk_lt (g := gb154) (by (with_reducible repeat (first | refine bN ?_ _|refine bD ?_|refine bA ?_ _)); exact BK154.out)) : gb168 ≠ gb154))
        replace BK154 := Aside0.mk (blk_below (g := gb154) (by (with_reducible repeat (first | refine bN ?_ _|refine bD ?_|refine bA ?_ _)); exact BK154.out) hb)
        have NB159_168 := Aside0.mk ((by rw [hg]; exact Nat.ne_of_lt (blk_lt (g := gb159) (by (with_reducible repeat (first | refine bN ?_ _|refine bD ?_|refine bA ?_ _)); exact BK159.out)) : gb159 ≠ gb168))
        have NB168_159 := Aside0.mk ((by rw [hg]; exact Nat.ne_of_gt (blk_lt (g := gb159) (by (with_reducible repeat (first | refine bN ?_ _|refine bD ?_|refine bA ?_ _)); exact BK159.out)) : gb168 ≠ gb159))
        replace BK159 := Aside0.mk (blk_below (g := gb159) (by (with_reducible repeat (first | refine bN ?_ _|refine bD ?_|refine bA ?_ _)); exact BK159.out) hb)
        clear hb hbox hg
        refine hK.out _ _ ⟨(blk_cell BK154.out 0).trans rfl, (blk_cell BK154.out 1).trans rfl, (blk_cell BK154.out 2).trans rfl, (blk_cell BK153.out 0).trans rfl, (blk_cell BK153.out 1).trans rfl, (blk_cell BK153.out 2).trans rfl, (blk_cell BK153.out 3).trans rfl, (blk_cell BK153.out 4).trans rfl, (blk_cell BK153.out 5).trans rfl, (blk_cell BK153.out 6).trans rfl, (blk_cell BK153.out 7).trans rfl, (blk_cell BK159.out 0).trans rfl, (blk_cell BK159.out 1).trans rfl, (blk_cell BK159.out 2).trans rfl, (blk_cell BK159.out 3).trans rfl⟩ (fun hHeld => ?_)
        clear hK K
        refine norm_ (a' := ?_) ?_ ?_
        rotate_left
        ·show Act.put _ (some 8) _ = _
         simp only [Act.put, sT, sZ, sS, i64_w, i32_w]
         rfl
        exact norm_ (by simp only [putAll, Act.put, List.setIfInBounds_toArray, List.set_cons_zero, List.set_cons_succ]) (hCont (gb168) _ ⟨hHeld, (by (with_reducible repeat (first|apply rA|apply rN|apply rD)); exact HO_5.out), (by (with_reducible repeat (first | refine bN ?_ _|refine bD ?_|refine bA ?_ _)); exact BK153.out), (by (with_reducible repeat (first | refine bN ?_ _|refine bD ?_|refine bA ?_ _)); exact BK154.out), (by (with_reducible repeat (first | refine bN ?_ _|refine bD ?_|refine bA ?_ _)); exact BK159.out), (by (with_reducible repeat (first | refine bN ?_ _|refine bD ?_|refine bA ?_ _)); exact BK168.out), GW168.out, GE168.out, NB153_168.out, NB168_153.out, NB154_168.out, NB168_154.out, NB159_168.out, NB168_159.out, hB⟩)
       ·skip
        refine box_step ?hg (N := 8) ?hd (cs := #[.string (⟨#[]⟩ : ByteArray), .string (⟨#[]⟩ : ByteArray), .bool false, .bool false, .string (⟨#[]⟩ : ByteArray)]) (t := 85) ?hr ?_; (case hd => rfl); (case hg => rfl); (case hr => first | (go_simp; done) | (go_simp; rfl))
        intro gb168 hg w22 hbox hb
        replace HO_5 := Aside0.mk (Kd.R_below (by (with_reducible repeat (first|apply rA|apply rN|apply rD)); exact HO_5.out) hb)
        have BK168 := Aside0.mk (hbox)
        have GW168 := Aside0.mk ((by rw [hg]; exact (below_size hB) : w.heap.size ≤ gb168))
        have GE168 := Aside0.mk ((by rw [hg]; exact (below_size hB) : w.heap.size ≤ gb168))
        replace HB := Aside0.mk (below_step hB hb)
        have NB153_168 := Aside0.mk ((by rw [hg]; exact Nat.ne_of_lt (blk_lt (g := gb153) (by (with_reducible repeat (first | refine bN ?_ _|refine bD ?_|refine bA ?_ _)); exact BK153.out)) : gb153 ≠ gb168))
        have NB168_153 := Aside0.mk ((by rw [hg]; exact Nat.ne_of_gt (blk_lt (g := gb153) (by (with_reducible repeat (first | refine bN ?_ _|refine bD ?_|refine bA ?_ _)); exact BK153.out)) : gb168 ≠ gb153))
        replace BK153 := Aside0.mk (blk_below (g := gb153) (by (with_reducible repeat (first | refine bN ?_ _|refine bD ?_|refine bA ?_ _)); exact BK153.out) hb)
        have NB154_168 := Aside0.mk ((by rw [hg]; exact Nat.ne_of_lt (blk_lt (g := gb154) (by (with_reducible repeat (first | refine bN ?_ _|refine bD ?_|refine bA ?_ _)); exact BK154.out)) : gb154 ≠ gb168))
        have NB168_154 := Aside0.mk ((by rw [hg]; exact Nat.ne_of_gt (blk_lt (g := gb154) (by (with_reducible repeat (first | refine bN ?_ _|refine bD ?_|refine bA ?_ _)); exact BK154.out)) : gb168 ≠ gb154))
        replace BK154 := Aside0.mk (blk_below (g := gb154) (by (with_reducible repeat (first | refine bN ?_ _|refine bD ?_|refine bA ?_ _)); exact BK154.out) hb)
        have NB159_168 := Aside0.mk ((by rw [hg]; exact Nat.ne_of_lt (blk_lt (g := gb159) (by (with_reducible repeat (first | refine bN ?_ _|refine bD ?_|refine bA ?_ _)); exact BK159.out)) : gb159 ≠ gb168))
        have NB168_159 := Aside0.mk ((by rw [hg]; exact Nat.ne_of_gt (blk_lt (g := gb159) (by (with_reducible repeat (first | refine bN ?_ _|refine bD ?_|refine bA ?_ _)); exact BK159.out)) : gb168 ≠ gb159))
        replace BK159 := Aside0.mk (blk_below (g := gb159) (by (with_reducible repeat (first | refine bN ?_ _|refine bD ?_|refine bA ?_ _)); exact BK159.out) hb)
        clear hb hbox hg
        refine hK.out _ _ ⟨(blk_cell BK154.out 0).trans rfl, (blk_cell BK154.out 1).trans rfl, (blk_cell BK154.out 2).trans rfl, (blk_cell BK153.out 0).trans rfl, (blk_cell BK153.out 1).trans rfl, (blk_cell BK153.out 2).trans rfl, (blk_cell BK153.out 3).trans rfl, (blk_cell BK153.out 4).trans rfl, (blk_cell BK153.out 5).trans rfl, (blk_cell BK153.out 6).trans rfl, (blk_cell BK153.out 7).trans rfl, (blk_cell BK159.out 0).trans rfl, (blk_cell BK159.out 1).trans rfl, (blk_cell BK159.out 2).trans rfl, (blk_cell BK159.out 3).trans rfl⟩ (fun hHeld => ?_)
        clear hK K
        refine norm_ (a' := ?_) ?_ ?_
        rotate_left
        ·show Act.put _ (some 8) _ = _
         simp only [Act.put, sT, sZ, sS, i64_w, i32_w]
         rfl
        refine one_ (i := 12) (N := some 37) #[true, true, true, true, true, true, true, true, true, true, true, true, true, false, false, false, true, false, false] rfl rfl (one_of HT_.out (by kernel_rfl)) (by decide) (fun K hK => ?_)
        refine goes_ Tryd.func43 (by kernel_rfl) rfl #[.slice A1_2 l1_2.length c1_2, .string t160, .string t161] (by rfl) rfl rfl mA ?_
        with_reducible refine (spec_DefOf.calls k1 _ _ l1_2 t160 t161 t162 t163 t164 t165 t166 t167 _ ?side1 ?side2 A11.out).mono ?_
        (case side1 => repeat (first | exact (Kd.C_below HR1_2.out HB.out) | (with_reducible refine Kd.C_alloc ?_ _) | (with_reducible refine Kd.C_drewN ?_ _) | (with_reducible refine Kd.C_drew ?_)))
        (case side2 => exact HC1_2.out)
        rintro e w23 ⟨rfl, hb⟩
        refine ⟨_, rfl, ?_⟩
        replace HO_5 := Aside0.mk (Kd.R_below (by (with_reducible repeat (first|apply rA|apply rN|apply rD)); exact HO_5.out) hb)
        replace BK153 := Aside0.mk (blk_below (g := gb153) (by (with_reducible repeat (first | refine bN ?_ _|refine bD ?_|refine bA ?_ _)); exact BK153.out) hb)
        replace BK154 := Aside0.mk (blk_below (g := gb154) (by (with_reducible repeat (first | refine bN ?_ _|refine bD ?_|refine bA ?_ _)); exact BK154.out) hb)
        replace BK159 := Aside0.mk (blk_below (g := gb159) (by (with_reducible repeat (first | refine bN ?_ _|refine bD ?_|refine bA ?_ _)); exact BK159.out) hb)
        replace BK168 := Aside0.mk (blk_below (g := gb168) (by (with_reducible repeat (first | refine bN ?_ _|refine bD ?_|refine bA ?_ _)); exact BK168.out) hb)
        replace HB := Aside0.mk (below_step hB hb)
        (try clear hb)
        (try clear hb2)
        (try clear hk)
        (try clear hi)
        refine hK.out _ _ ⟨(blk_cell BK154.out 0).trans rfl, (blk_cell BK154.out 1).trans rfl, (blk_cell BK154.out 2).trans rfl, (blk_cell BK153.out 0).trans rfl, (blk_cell BK153.out 1).trans rfl, (blk_cell BK153.out 2).trans rfl, (blk_cell BK153.out 3).trans rfl, (blk_cell BK153.out 4).trans rfl, (blk_cell BK153.out 5).trans rfl, (blk_cell BK153.out 6).trans rfl, (blk_cell BK153.out 7).trans rfl, (blk_cell BK159.out 0).trans rfl, (blk_cell BK159.out 1).trans rfl, (blk_cell BK159.out 2).trans rfl, (blk_cell BK159.out 3).trans rfl⟩ (fun hHeld => ?_)
        clear hK K
        refine norm_ (a' := ?_) ?_ ?_
        rotate_left
        ·show Act.put _ (some 37) _ = _
         simp only [Act.put, sT, sZ, sS, i64_w, i32_w]
         rfl
        refine pU 13 24 #[true, true, true, true, true, true, true, true, true, true, true, true, true, true, false, false, true, false, false] ?_
        refine pU 14 38 #[true, true, true, true, true, true, true, true, true, true, true, true, true, true, true, false, true, false, false] ?_
        refine pU 15 39 (tf 17 2) ?_
        exact norm_ (by simp only [putAll, Act.put, List.setIfInBounds_toArray, List.set_cons_zero, List.set_cons_succ]) (hCont (gb168) _ ⟨hHeld, (by (with_reducible repeat (first|apply rA|apply rN|apply rD)); exact HO_5.out), (by (with_reducible repeat (first | refine bN ?_ _|refine bD ?_|refine bA ?_ _)); exact BK153.out), (by (with_reducible repeat (first | refine bN ?_ _|refine bD ?_|refine bA ?_ _)); exact BK154.out), (by (with_reducible repeat (first | refine bN ?_ _|refine bD ?_|refine bA ?_ _)); exact BK159.out), (by (with_reducible repeat (first | refine bN ?_ _|refine bD ?_|refine bA ?_ _)); exact BK168.out), GW168.out, GE168.out, NB153_168.out, NB168_153.out, NB154_168.out, NB168_154.out, NB159_168.out, NB168_159.out, hB⟩)
      ·skip
       refine box_step ?hg (N := 8) ?hd (cs := #[.string (⟨#[]⟩ : ByteArray), .string (⟨#[]⟩ : ByteArray), .bool false, .bool false, .string (⟨#[]⟩ : ByteArray)]) (t := 85) ?hr ?_; (case hd => rfl); (case hg => rfl); (case hr => first | (go_simp; done) | (go_simp; rfl))
       intro gb168 hg w21 hbox hb
       replace HO_5 := Aside0.mk (Kd.R_below (by (with_reducible repeat (first|apply rA|apply rN|apply rD)); exact HO_5.out) hb)
       have BK168 := Aside0.mk (hbox)
       have GW168 := Aside0.mk ((by rw [hg]; exact (below_size hB) : w.heap.size ≤ gb168))
       have GE168 := Aside0.mk ((by rw [hg]; exact (below_size hB) : w.heap.size ≤ gb168))
       replace HB := Aside0.mk (below_step hB hb)
       have NB153_168 := Aside0.mk ((by rw [hg]; exact Nat.ne_of_lt (blk_lt (g := gb153) (by (with_reducible repeat (first | refine bN ?_ _|refine bD ?_|refine bA ?_ _)); exact BK153.out)) : gb153 ≠ gb168))
       have NB168_153 := Aside0.mk ((by rw [hg]; exact Nat.ne_of_gt (blk_lt (g := gb153) (by (with_reducible repeat (first | refine bN ?_ _|refine bD ?_|refine bA ?_ _)); exact BK153.out)) : gb168 ≠ gb153))
       replace BK153 := Aside0.mk (blk_below (g := gb153) (by (with_reducible repeat (first | refine bN ?_ _|refine bD ?_|refine bA ?_ _)); exact BK153.out) hb)
       have NB154_168 := Aside0.mk ((by rw [hg]; exact Nat.ne_of_lt (blk_lt (g := gb154) (by (with_reducible repeat (first | refine bN ?_ _|refine bD ?_|refine bA ?_ _)); exact BK154.out)) : gb154 ≠ gb168))
       have NB168_154 := Aside0.mk ((by rw [hg]; exact Nat.ne_of_gt (blk_lt (g := gb154) (by (with_reducible repeat (first | refine bN ?_ _|refine bD ?_|refine bA ?_ _)); exact BK154.out)) : gb168 ≠ gb154))
       replace BK154 := Aside0.mk (blk_below (g := gb154) (by (with_reducible repeat (first | refine bN ?_ _|refine bD ?_|refine bA ?_ _)); exact BK154.out) hb)
       have NB159_168 := Aside0.mk ((by rw [hg]; exact Nat.ne_of_lt (blk_lt (g := gb159) (by (with_reducible repeat (first | refine bN ?_ _|refine bD ?_|refine bA ?_ _)); exact BK159.out)) : gb159 ≠ gb168))
       have NB168_159 := Aside0.mk ((by rw [hg]; exact Nat.ne_of_gt (blk_lt (g := gb159) (by (with_reducible repeat (first | refine bN ?_ _|refine bD ?_|refine bA ?_ _)); exact BK159.out)) : gb168 ≠ gb159))
       replace BK159 := Aside0.mk (blk_below (g := gb159) (by (with_reducible repeat (first | refine bN ?_ _|refine bD ?_|refine bA ?_ _)); exact BK159.out) hb)
       clear hb hbox hg
       refine hK.out _ _ ⟨(blk_cell BK154.out 0).trans rfl, (blk_cell BK154.out 1).trans rfl, (blk_cell BK154.out 2).trans rfl, (blk_cell BK153.out 0).trans rfl, (blk_cell BK153.out 1).trans rfl, (blk_cell BK153.out 2).trans rfl, (blk_cell BK153.out 3).trans rfl, (blk_cell BK153.out 4).trans rfl, (blk_cell BK153.out 5).trans rfl, (blk_cell BK153.out 6).trans rfl, (blk_cell BK153.out 7).trans rfl, (blk_cell BK159.out 0).trans rfl, (blk_cell BK159.out 1).trans rfl, (blk_cell BK159.out 2).trans rfl, (blk_cell BK159.out 3).trans rfl⟩ (fun hHeld => ?_)
       clear hK K
       refine norm_ (a' := ?_) ?_ ?_
       rotate_left
       ·show Act.put _ (some 8) _ = _
        simp only [Act.put, sT, sZ, sS, i64_w, i32_w]
        rfl
       refine one_ (i := 11) (N := some 36) #[true, true, true, true, true, true, true, true, true, true, true, true, false, false, false, false, true, false, false] rfl rfl (one_of HT_.out (by kernel_rfl)) (by decide) (fun K hK => ?_)
       refine goes_ Tryd.func44 (by kernel_rfl) rfl #[.string ((rd_T64 l0_5 x6_1).f0), .string ((rd_T64 l0_5 x6_1).f1)] (by rfl) rfl rfl mA ?_
       with_reducible refine (spec_JoinName.calls k1 ((rd_T64 l0_5 x6_1).f0) ((rd_T64 l0_5 x6_1).f1) t161 _ A10.out).mono ?_
       rintro e w22 ⟨rfl, hb⟩
       refine ⟨_, rfl, ?_⟩
       replace HO_5 := Aside0.mk (Kd.R_below (by (with_reducible repeat (first|apply rA|apply rN|apply rD)); exact HO_5.out) hb)
       replace BK153 := Aside0.mk (blk_below (g := gb153) (by (with_reducible repeat (first | refine bN ?_ _|refine bD ?_|refine bA ?_ _)); exact BK153.out) hb)
       replace BK154 := Aside0.mk (blk_below (g := gb154) (by (with_reducible repeat (first | refine bN ?_ _|refine bD ?_|refine bA ?_ _)); exact BK154.out) hb)
       replace BK159 := Aside0.mk (blk_below (g := gb159) (by (with_reducible repeat (first | refine bN ?_ _|refine bD ?_|refine bA ?_ _)); exact BK159.out) hb)
       replace BK168 := Aside0.mk (blk_below (g := gb168) (by (with_reducible repeat (first | refine bN ?_ _|refine bD ?_|refine bA ?_ _)); exact BK168.out) hb)
       replace HB := Aside0.mk (below_step hB hb)
       (try clear hb)
       (try clear hb2)
       (try clear hk)
       (try clear hi)
       refine hK.out _ _ ⟨(blk_cell BK154.out 0).trans rfl, (blk_cell BK154.out 1).trans rfl, (blk_cell BK154.out 2).trans rfl, (blk_cell BK153.out 0).trans rfl, (blk_cell BK153.out 1).trans rfl, (blk_cell BK153.out 2).trans rfl, (blk_cell BK153.out 3).trans rfl, (blk_cell BK153.out 4).trans rfl, (blk_cell BK153.out 5).trans rfl, (blk_cell BK153.out 6).trans rfl, (blk_cell BK153.out 7).trans rfl, (blk_cell BK159.out 0).trans rfl, (blk_cell BK159.out 1).trans rfl, (blk_cell BK159.out 2).trans rfl, (blk_cell BK159.out 3).trans rfl⟩ (fun hHeld => ?_)
       clear hK K
       refine norm_ (a' := ?_) ?_ ?_
       rotate_left
       ·show Act.put _ (some 36) _ = _
        simp only [Act.put, sT, sZ, sS, i64_w, i32_w]
        rfl
       refine one_ (i := 12) (N := some 37) #[true, true, true, true, true, true, true, true, true, true, true, true, true, false, false, false, true, false, false] rfl rfl (one_of HT_.out (by kernel_rfl)) (by decide) (fun K hK => ?_)
       refine goes_ Tryd.func43 (by kernel_rfl) rfl #[.slice A1_2 l1_2.length c1_2, .string t160, .string t161] (by rfl) rfl rfl mA ?_
       with_reducible refine (spec_DefOf.calls k1 _ _ l1_2 t160 t161 t162 t163 t164 t165 t166 t167 _ ?side1 ?side2 A11.out).mono ?_
       (case side1 => repeat (first | exact (Kd.C_below HR1_2.out HB.out) | (with_reducible refine Kd.C_alloc ?_ _) | (with_reducible refine Kd.C_drewN ?_ _) | (with_reducible refine Kd.C_drew ?_)))
       (case side2 => exact HC1_2.out)
       rintro e w23 ⟨rfl, hb⟩
       refine ⟨_, rfl, ?_⟩
       replace HO_5 := Aside0.mk (Kd.R_below (by (with_reducible repeat (first|apply rA|apply rN|apply rD)); exact HO_5.out) hb)
       replace BK153 := Aside0.mk (blk_below (g := gb153) (by (with_reducible repeat (first | refine bN ?_ _|refine bD ?_|refine bA ?_ _)); exact BK153.out) hb)
       replace BK154 := Aside0.mk (blk_below (g := gb154) (by (with_reducible repeat (first | refine bN ?_ _|refine bD ?_|refine bA ?_ _)); exact BK154.out) hb)
       replace BK159 := Aside0.mk (blk_below (g := gb159) (by (with_reducible repeat (first | refine bN ?_ _|refine bD ?_|refine bA ?_ _)); exact BK159.out) hb)
       replace BK168 := Aside0.mk (blk_below (g := gb168) (by (with_reducible repeat (first | refine bN ?_ _|refine bD ?_|refine bA ?_ _)); exact BK168.out) hb)
       replace HB := Aside0.mk (below_step hB hb)
       (try clear hb)
       (try clear hb2)
       (try clear hk)
       (try clear hi)
       refine hK.out _ _ ⟨(blk_cell BK154.out 0).trans rfl, (blk_cell BK154.out 1).trans rfl, (blk_cell BK154.out 2).trans rfl, (blk_cell BK153.out 0).trans rfl, (blk_cell BK153.out 1).trans rfl, (blk_cell BK153.out 2).trans rfl, (blk_cell BK153.out 3).trans rfl, (blk_cell BK153.out 4).trans rfl, (blk_cell BK153.out 5).trans rfl, (blk_cell BK153.out 6).trans rfl, (blk_cell BK153.out 7).trans rfl, (blk_cell BK159.out 0).trans rfl, (blk_cell BK159.out 1).trans rfl, (blk_cell BK159.out 2).trans rfl, (blk_cell BK159.out 3).trans rfl⟩ (fun hHeld => ?_)
       clear hK K
       refine norm_ (a' := ?_) ?_ ?_
       rotate_left
       ·show Act.put _ (some 37) _ = _
        simp only [Act.put, sT, sZ, sS, i64_w, i32_w]
        rfl
       refine pU 13 24 #[true, true, true, true, true, true, true, true, true, true, true, true, true, true, false, false, true, false, false] ?_
       refine pU 14 38 #[true, true, true, true, true, true, true, true, true, true, true, true, true, true, true, false, true, false, false] ?_
       refine pU 15 39 (tf 17 2) ?_
       exact norm_ (by simp only [putAll, Act.put, List.setIfInBounds_toArray, List.set_cons_zero, List.set_cons_succ]) (hCont (gb168) _ ⟨hHeld, (by (with_reducible repeat (first|apply rA|apply rN|apply rD)); exact HO_5.out), (by (with_reducible repeat (first | refine bN ?_ _|refine bD ?_|refine bA ?_ _)); exact BK153.out), (by (with_reducible repeat (first | refine bN ?_ _|refine bD ?_|refine bA ?_ _)); exact BK154.out), (by (with_reducible repeat (first | refine bN ?_ _|refine bD ?_|refine bA ?_ _)); exact BK159.out), (by (with_reducible repeat (first | refine bN ?_ _|refine bD ?_|refine bA ?_ _)); exact BK168.out), GW168.out, GE168.out, NB153_168.out, NB168_153.out, NB154_168.out, NB168_154.out, NB159_168.out, NB168_159.out, hB⟩)
     ·skip
      refine box_step ?hg (N := 8) ?hd (cs := #[.string (⟨#[]⟩ : ByteArray), .string (⟨#[]⟩ : ByteArray), .bool false, .bool false, .string (⟨#[]⟩ : ByteArray)]) (t := 85) ?hr ?_; (case hd => rfl); (case hg => rfl); (case hr => first | (go_simp; done) | (go_simp; rfl))
      intro gb168 hg w20 hbox hb
      replace HO_5 := Aside0.mk (Kd.R_below (by (with_reducible repeat (first|apply rA|apply rN|apply rD)); exact HO_5.out) hb)
      have BK168 := Aside0.mk (hbox)
      have GW168 := Aside0.mk ((by rw [hg]; exact (below_size hB) : w.heap.size ≤ gb168))
      have GE168 := Aside0.mk ((by rw [hg]; exact (below_size hB) : w.heap.size ≤ gb168))
      replace HB := Aside0.mk (below_step hB hb)
      have NB153_168 := Aside0.mk ((by rw [hg]; exact Nat.ne_of_lt (blk_lt (g := gb153) (by (with_reducible repeat (first | refine bN ?_ _|refine bD ?_|refine bA ?_ _)); exact BK153.out)) : gb153 ≠ gb168))
      have NB168_153 := Aside0.mk ((by rw [hg]; exact Nat.ne_of_gt (blk_lt (g := gb153) (by (with_reducible repeat (first | refine bN ?_ _|refine bD ?_|refine bA ?_ _)); exact BK153.out)) : gb168 ≠ gb153))
      replace BK153 := Aside0.mk (blk_below (g := gb153) (by (with_reducible repeat (first | refine bN ?_ _|refine bD ?_|refine bA ?_ _)); exact BK153.out) hb)
      have NB154_168 := Aside0.mk ((by rw [hg]; exact Nat.ne_of_lt (blk_lt (g := gb154) (by (with_reducible repeat (first | refine bN ?_ _|refine bD ?_|refine bA ?_ _)); exact BK154.out)) : gb154 ≠ gb168))
      have NB168_154 := Aside0.mk ((by rw [hg]; exact Nat.ne_of_gt (blk_lt (g := gb154) (by (with_reducible repeat (first | refine bN ?_ _|refine bD ?_|refine bA ?_ _)); exact BK154.out)) : gb168 ≠ gb154))
      replace BK154 := Aside0.mk (blk_below (g := gb154) (by (with_reducible repeat (first | refine bN ?_ _|refine bD ?_|refine bA ?_ _)); exact BK154.out) hb)
      have NB159_168 := Aside0.mk ((by rw [hg]; exact Nat.ne_of_lt (blk_lt (g := gb159) (by (with_reducible repeat (first | refine bN ?_ _|refine bD ?_|refine bA ?_ _)); exact BK159.out)) : gb159 ≠ gb168))
      have NB168_159 := Aside0.mk ((by rw [hg]; exact Nat.ne_of_gt (blk_lt (g := gb159) (by (with_reducible repeat (first | refine bN ?_ _|refine bD ?_|refine bA ?_ _)); exact BK159.out)) : gb168 ≠ gb159))
      replace BK159 := Aside0.mk (blk_below (g := gb159) (by (with_reducible repeat (first | refine bN ?_ _|refine bD ?_|refine bA ?_ _)); exact BK159.out) hb)
      clear hb hbox hg
      refine hK.out _ _ ⟨(blk_cell BK154.out 0).trans rfl, (blk_cell BK154.out 1).trans rfl, (blk_cell BK154.out 2).trans rfl, (blk_cell BK153.out 0).trans rfl, (blk_cell BK153.out 1).trans rfl, (blk_cell BK153.out 2).trans rfl, (blk_cell BK153.out 3).trans rfl, (blk_cell BK153.out 4).trans rfl, (blk_cell BK153.out 5).trans rfl, (blk_cell BK153.out 6).trans rfl, (blk_cell BK153.out 7).trans rfl, (blk_cell BK159.out 0).trans rfl, (blk_cell BK159.out 1).trans rfl, (blk_cell BK159.out 2).trans rfl, (blk_cell BK159.out 3).trans rfl⟩ (fun hHeld => ?_)
      clear hK K
      refine norm_ (a' := ?_) ?_ ?_
      rotate_left
      ·show Act.put _ (some 8) _ = _
       simp only [Act.put, sT, sZ, sS, i64_w, i32_w]
       rfl
      refine one_ (i := 6) (N := some 31) #[true, true, true, true, true, true, true, true, true, true, true, false, false, false, false, false, true, false, false] rfl rfl (one_of HT_.out (by kernel_rfl)) (by decide) (fun K hK => ?_)
      refine goes_ Tryd.func44 (by kernel_rfl) rfl #[.string a0_1, .string a0_2] (by rfl) rfl rfl mA ?_
      with_reducible refine (spec_JoinName.calls k1 a0_1 a0_2 t160 _ A9.out).mono ?_
      rintro e w21 ⟨rfl, hb⟩
      refine ⟨_, rfl, ?_⟩
      replace HO_5 := Aside0.mk (Kd.R_below (by (with_reducible repeat (first|apply rA|apply rN|apply rD)); exact HO_5.out) hb)
      replace BK153 := Aside0.mk (blk_below (g := gb153) (by (with_reducible repeat (first | refine bN ?_ _|refine bD ?_|refine bA ?_ _)); exact BK153.out) hb)
      replace BK154 := Aside0.mk (blk_below (g := gb154) (by (with_reducible repeat (first | refine bN ?_ _|refine bD ?_|refine bA ?_ _)); exact BK154.out) hb)
      replace BK159 := Aside0.mk (blk_below (g := gb159) (by (with_reducible repeat (first | refine bN ?_ _|refine bD ?_|refine bA ?_ _)); exact BK159.out) hb)
      replace BK168 := Aside0.mk (blk_below (g := gb168) (by (with_reducible repeat (first | refine bN ?_ _|refine bD ?_|refine bA ?_ _)); exact BK168.out) hb)
      replace HB := Aside0.mk (below_step hB hb)
      (try clear hb)
      (try clear hb2)
      (try clear hk)
      (try clear hi)
      refine hK.out _ _ ⟨(blk_cell BK154.out 0).trans rfl, (blk_cell BK154.out 1).trans rfl, (blk_cell BK154.out 2).trans rfl, (blk_cell BK153.out 0).trans rfl, (blk_cell BK153.out 1).trans rfl, (blk_cell BK153.out 2).trans rfl, (blk_cell BK153.out 3).trans rfl, (blk_cell BK153.out 4).trans rfl, (blk_cell BK153.out 5).trans rfl, (blk_cell BK153.out 6).trans rfl, (blk_cell BK153.out 7).trans rfl, (blk_cell BK159.out 0).trans rfl, (blk_cell BK159.out 1).trans rfl, (blk_cell BK159.out 2).trans rfl, (blk_cell BK159.out 3).trans rfl⟩ (fun hHeld => ?_)
      clear hK K
      refine norm_ (a' := ?_) ?_ ?_
      rotate_left
      ·show Act.put _ (some 31) _ = _
       simp only [Act.put, sT, sZ, sS, i64_w, i32_w]
       rfl
      refine one_ (i := 11) (N := some 36) #[true, true, true, true, true, true, true, true, true, true, true, true, false, false, false, false, true, false, false] rfl rfl (one_of HT_.out (by kernel_rfl)) (by decide) (fun K hK => ?_)
      refine goes_ Tryd.func44 (by kernel_rfl) rfl #[.string ((rd_T64 l0_5 x6_1).f0), .string ((rd_T64 l0_5 x6_1).f1)] (by rfl) rfl rfl mA ?_
      with_reducible refine (spec_JoinName.calls k1 ((rd_T64 l0_5 x6_1).f0) ((rd_T64 l0_5 x6_1).f1) t161 _ A10.out).mono ?_
      rintro e w22 ⟨rfl, hb⟩
      refine ⟨_, rfl, ?_⟩
      replace HO_5 := Aside0.mk (Kd.R_below (by (with_reducible repeat (first|apply rA|apply rN|apply rD)); exact HO_5.out) hb)
      replace BK153 := Aside0.mk (blk_below (g := gb153) (by (with_reducible repeat (first | refine bN ?_ _|refine bD ?_|refine bA ?_ _)); exact BK153.out) hb)
      replace BK154 := Aside0.mk (blk_below (g := gb154) (by (with_reducible repeat (first | refine bN ?_ _|refine bD ?_|refine bA ?_ _)); exact BK154.out) hb)
      replace BK159 := Aside0.mk (blk_below (g := gb159) (by (with_reducible repeat (first | refine bN ?_ _|refine bD ?_|refine bA ?_ _)); exact BK159.out) hb)
      replace BK168 := Aside0.mk (blk_below (g := gb168) (by (with_reducible repeat (first | refine bN ?_ _|refine bD ?_|refine bA ?_ _)); exact BK168.out) hb)
      replace HB := Aside0.mk (below_step hB hb)
      (try clear hb)
      (try clear hb2)
      (try clear hk)
      (try clear hi)
      refine hK.out _ _ ⟨(blk_cell BK154.out 0).trans rfl, (blk_cell BK154.out 1).trans rfl, (blk_cell BK154.out 2).trans rfl, (blk_cell BK153.out 0).trans rfl, (blk_cell BK153.out 1).trans rfl, (blk_cell BK153.out 2).trans rfl, (blk_cell BK153.out 3).trans rfl, (blk_cell BK153.out 4).trans rfl, (blk_cell BK153.out 5).trans rfl, (blk_cell BK153.out 6).trans rfl, (blk_cell BK153.out 7).trans rfl, (blk_cell BK159.out 0).trans rfl, (blk_cell BK159.out 1).trans rfl, (blk_cell BK159.out 2).trans rfl, (blk_cell BK159.out 3).trans rfl⟩ (fun hHeld => ?_)
      clear hK K
      refine norm_ (a' := ?_) ?_ ?_
      rotate_left
      ·show Act.put _ (some 36) _ = _
       simp only [Act.put, sT, sZ, sS, i64_w, i32_w]
       rfl
      refine one_ (i := 12) (N := some 37) #[true, true, true, true, true, true, true, true, true, true, true, true, true, false, false, false, true, false, false] rfl rfl (one_of HT_.out (by kernel_rfl)) (by decide) (fun K hK => ?_)
      refine goes_ Tryd.func43 (by kernel_rfl) rfl #[.slice A1_2 l1_2.length c1_2, .string t160, .string t161] (by rfl) rfl rfl mA ?_
      with_reducible refine (spec_DefOf.calls k1 _ _ l1_2 t160 t161 t162 t163 t164 t165 t166 t167 _ ?side1 ?side2 A11.out).mono ?_
      (case side1 => repeat (first | exact (Kd.C_below HR1_2.out HB.out) | (with_reducible refine Kd.C_alloc ?_ _) | (with_reducible refine Kd.C_drewN ?_ _) | (with_reducible refine Kd.C_drew ?_)))
      (case side2 => exact HC1_2.out)
      rintro e w23 ⟨rfl, hb⟩
      refine ⟨_, rfl, ?_⟩
      replace HO_5 := Aside0.mk (Kd.R_below (by (with_reducible repeat (first|apply rA|apply rN|apply rD)); exact HO_5.out) hb)
      replace BK153 := Aside0.mk (blk_below (g := gb153) (by (with_reducible repeat (first | refine bN ?_ _|refine bD ?_|refine bA ?_ _)); exact BK153.out) hb)
      replace BK154 := Aside0.mk (blk_below (g := gb154) (by (with_reducible repeat (first | refine bN ?_ _|refine bD ?_|refine bA ?_ _)); exact BK154.out) hb)
      replace BK159 := Aside0.mk (blk_below (g := gb159) (by (with_reducible repeat (first | refine bN ?_ _|refine bD ?_|refine bA ?_ _)); exact BK159.out) hb)
      replace BK168 := Aside0.mk (blk_below (g := gb168) (by (with_reducible repeat (first | refine bN ?_ _|refine bD ?_|refine bA ?_ _)); exact BK168.out) hb)
      replace HB := Aside0.mk (below_step hB hb)
      (try clear hb)
      (try clear hb2)
      (try clear hk)
      (try clear hi)
      refine hK.out _ _ ⟨(blk_cell BK154.out 0).trans rfl, (blk_cell BK154.out 1).trans rfl, (blk_cell BK154.out 2).trans rfl, (blk_cell BK153.out 0).trans rfl, (blk_cell BK153.out 1).trans rfl, (blk_cell BK153.out 2).trans rfl, (blk_cell BK153.out 3).trans rfl, (blk_cell BK153.out 4).trans rfl, (blk_cell BK153.out 5).trans rfl, (blk_cell BK153.out 6).trans rfl, (blk_cell BK153.out 7).trans rfl, (blk_cell BK159.out 0).trans rfl, (blk_cell BK159.out 1).trans rfl, (blk_cell BK159.out 2).trans rfl, (blk_cell BK159.out 3).trans rfl⟩ (fun hHeld => ?_)
      clear hK K
      refine norm_ (a' := ?_) ?_ ?_
      rotate_left
      ·show Act.put _ (some 37) _ = _
       simp only [Act.put, sT, sZ, sS, i64_w, i32_w]
       rfl
      refine pU 13 24 #[true, true, true, true, true, true, true, true, true, true, true, true, true, true, false, false, true, false, false] ?_
      refine pU 14 38 #[true, true, true, true, true, true, true, true, true, true, true, true, true, true, true, false, true, false, false] ?_
      refine pU 15 39 (tf 17 2) ?_
      exact norm_ (by simp only [putAll, Act.put, List.setIfInBounds_toArray, List.set_cons_zero, List.set_cons_succ]) (hCont (gb168) _ ⟨hHeld, (by (with_reducible repeat (first|apply rA|apply rN|apply rD)); exact HO_5.out), (by (with_reducible repeat (first | refine bN ?_ _|refine bD ?_|refine bA ?_ _)); exact BK153.out), (by (with_reducible repeat (first | refine bN ?_ _|refine bD ?_|refine bA ?_ _)); exact BK154.out), (by (with_reducible repeat (first | refine bN ?_ _|refine bD ?_|refine bA ?_ _)); exact BK159.out), (by (with_reducible repeat (first | refine bN ?_ _|refine bD ?_|refine bA ?_ _)); exact BK168.out), GW168.out, GE168.out, NB153_168.out, NB168_153.out, NB154_168.out, NB168_154.out, NB159_168.out, NB168_159.out, hB⟩)
    rintro gb168 w24 ⟨hS_, h0_, h1_, h2_, h3_, h4_, h5_, h6_, h7_, h8_, h9_, h10_, h11_, h12_, h13_⟩
    have n0_ : Aside0 (Kd.R k64 64 w24 w.heap.size (fun k_ => k_ ≠ gb159) u5 x5_1) := ⟨h0_⟩
    have n1_ : Aside0 (w24.heap[gb153]? = some (.cells #[.int .i64 a0_0, .string a0_1, .string a0_2, .string a0_3, .slice A0_4 l0_4.length c0_4, .slice (some ad158) l0_5.length c0_5, .slice A0_6 l0_6.length c0_6, .string a0_7] 38 (0, 0))) := ⟨h1_⟩
    have n2_ : Aside0 (w24.heap[gb154]? = some (.cells #[.string a1_0, .slice A1_1 l1_1.length c1_1, .slice A1_2 l1_2.length c1_2] 43 (0, 0))) := ⟨h2_⟩
    have n3_ : Aside0 (w24.heap[gb159]? = some (.cells #[.string ((rd_T64 l0_5 x6_1).f0), .string ((rd_T64 l0_5 x6_1).f1), .string ((rd_T64 l0_5 x6_1).f2), .string ((rd_T64 l0_5 x6_1).f3)] 64 (0, 0))) := ⟨h3_⟩
    have n4_ : Aside0 (w24.heap[gb168]? = some (.cells #[.string (⟨#[]⟩ : ByteArray), .string (⟨#[]⟩ : ByteArray), .bool false, .bool false, .string (⟨#[]⟩ : ByteArray)] 85 (0, 0))) := ⟨h4_⟩
    have n5_ : Aside0 (w.heap.size ≤ gb168) := ⟨h5_⟩
    have n6_ : Aside0 (w.heap.size ≤ gb168) := ⟨h6_⟩
    have n7_ : Aside0 (gb153 ≠ gb168) := ⟨h7_⟩
    have n8_ : Aside0 (gb168 ≠ gb153) := ⟨h8_⟩
    have n9_ : Aside0 (gb154 ≠ gb168) := ⟨h9_⟩
    have n10_ : Aside0 (gb168 ≠ gb154) := ⟨h10_⟩
    have n11_ : Aside0 (gb159 ≠ gb168) := ⟨h11_⟩
    have n12_ : Aside0 (gb168 ≠ gb159) := ⟨h12_⟩
    have n13_ : Aside0 (Below w.heap.size w w24) := ⟨h13_⟩
    clear HO_5
    clear BK153
    clear BK154
    clear BK159
    clear HB
    clear h0_ h1_ h2_ h3_ h4_ h5_ h6_ h7_ h8_ h9_ h10_ h11_ h12_ h13_
    have HO_5 := n0_
    have BK153 := n1_
    have BK154 := n2_
    have BK159 := n3_
    have BK168 := n4_
    have GW168 := n5_
    have GE168 := n6_
    have NB153_168 := n7_
    have NB168_153 := n8_
    have NB154_168 := n9_
    have NB168_154 := n10_
    have NB159_168 := n11_
    have NB168_159 := n12_
    have HB := n13_
    clear n0_ n1_ n2_ n3_ n4_ n5_ n6_ n7_ n8_ n9_ n10_ n11_ n12_ n13_
    have hHeld : w24.cell? ⟨gb154, 0, none⟩ = some (.string a1_0) ∧ w24.cell? ⟨gb154, 1, none⟩ = some (.slice A1_1 l1_1.length c1_1) ∧ w24.cell? ⟨gb154, 2, none⟩ = some (.slice A1_2 l1_2.length c1_2) ∧ w24.cell? ⟨gb153, 0, none⟩ = some (.int .i64 a0_0) ∧ w24.cell? ⟨gb153, 1, none⟩ = some (.string a0_1) ∧ w24.cell? ⟨gb153, 2, none⟩ = some (.string a0_2) ∧ w24.cell? ⟨gb153, 3, none⟩ = some (.string a0_3) ∧ w24.cell? ⟨gb153, 4, none⟩ = some (.slice A0_4 l0_4.length c0_4) ∧ w24.cell? ⟨gb153, 5, none⟩ = some (.slice (some ad158) l0_5.length c0_5) ∧ w24.cell? ⟨gb153, 6, none⟩ = some (.slice A0_6 l0_6.length c0_6) ∧ w24.cell? ⟨gb153, 7, none⟩ = some (.string a0_7) ∧ w24.cell? ⟨gb159, 0, none⟩ = some (.string ((rd_T64 l0_5 x6_1).f0)) ∧ w24.cell? ⟨gb159, 1, none⟩ = some (.string ((rd_T64 l0_5 x6_1).f1)) ∧ w24.cell? ⟨gb159, 2, none⟩ = some (.string ((rd_T64 l0_5 x6_1).f2)) ∧ w24.cell? ⟨gb159, 3, none⟩ = some (.string ((rd_T64 l0_5 x6_1).f3)) := hS_
    refine norm_ (a' := ?_) ?_ ?_
    rotate_left
    ·simp only [putAll, Act.put, List.setIfInBounds_toArray, List.set_cons_zero, List.set_cons_succ]
     rfl
    refine one_ (i := 17) (N := none) (tf 18 1) rfl rfl (one_of HT_.out (by kernel_rfl)) (by decide) (fun K hK => ?_)
    have hs25 : w24.cell? ⟨gb168, 0, none⟩ = some (.string (⟨#[]⟩ : ByteArray)) := (blk_cell BK168.out 0).trans rfl
    have hfs25 := blk_frozen BK168.out 0
    have hns25_0 := NB153_168.out
    have hns25_1 := NB154_168.out
    have hns25_2 := NB159_168.out
    have hms25_0 := NB168_153.out
    have hms25_1 := NB168_154.out
    have hms25_2 := NB168_159.out
    have hs26 : w24.cell? ⟨gb168, 1, none⟩ = some (.string (⟨#[]⟩ : ByteArray)) := (blk_cell BK168.out 1).trans rfl
    have hfs26 := blk_frozen BK168.out 1
    have hns26_0 := NB153_168.out
    have hns26_1 := NB154_168.out
    have hns26_2 := NB159_168.out
    have hms26_0 := NB168_153.out
    have hms26_1 := NB168_154.out
    have hms26_2 := NB168_159.out
    have hs27 : w24.cell? ⟨gb168, 2, none⟩ = some (.bool false) := (blk_cell BK168.out 2).trans rfl
    have hfs27 := blk_frozen BK168.out 2
    have hns27_0 := NB153_168.out
    have hns27_1 := NB154_168.out
    have hns27_2 := NB159_168.out
    have hms27_0 := NB168_153.out
    have hms27_1 := NB168_154.out
    have hms27_2 := NB168_159.out
    have hs28 : w24.cell? ⟨gb168, 3, none⟩ = some (.bool false) := (blk_cell BK168.out 3).trans rfl
    have hfs28 := blk_frozen BK168.out 3
    have hns28_0 := NB153_168.out
    have hns28_1 := NB154_168.out
    have hns28_2 := NB159_168.out
    have hms28_0 := NB168_153.out
    have hms28_1 := NB168_154.out
    have hms28_2 := NB168_159.out
    have hs29 : w24.cell? ⟨gb168, 4, none⟩ = some (.string (⟨#[]⟩ : ByteArray)) := (blk_cell BK168.out 4).trans rfl
    have hfs29 := blk_frozen BK168.out 4
    have hns29_0 := NB153_168.out
    have hns29_1 := NB154_168.out
    have hns29_2 := NB159_168.out
    have hms29_0 := NB168_153.out
    have hms29_1 := NB168_154.out
    have hms29_2 := NB168_159.out
    refine skip_ (w1 := ?_) (by rfl) rfl ?_ ?_
    rotate_left
    ·go_simp
     rfl
    refine hK.out _ _ ⟨((cell_far (p := ⟨gb168, _, none⟩) NB154_168.out _).trans (((cell_far (p := ⟨gb168, _, none⟩) NB154_168.out _).trans (((cell_far (p := ⟨gb168, _, none⟩) NB154_168.out _).trans (((cell_far (p := ⟨gb168, _, none⟩) NB154_168.out _).trans (((cell_far (p := ⟨gb168, _, none⟩) NB154_168.out _).trans (hHeld.1)))))))))), ((cell_far (p := ⟨gb168, _, none⟩) NB154_168.out _).trans (((cell_far (p := ⟨gb168, _, none⟩) NB154_168.out _).trans (((cell_far (p := ⟨gb168, _, none⟩) NB154_168.out _).trans (((cell_far (p := ⟨gb168, _, none⟩) NB154_168.out _).trans (((cell_far (p := ⟨gb168, _, none⟩) NB154_168.out _).trans (hHeld.2.1)))))))))), ((cell_far (p := ⟨gb168, _, none⟩) NB154_168.out _).trans (((cell_far (p := ⟨gb168, _, none⟩) NB154_168.out _).trans (((cell_far (p := ⟨gb168, _, none⟩) NB154_168.out _).trans (((cell_far (p := ⟨gb168, _, none⟩) NB154_168.out _).trans (((cell_far (p := ⟨gb168, _, none⟩) NB154_168.out _).trans (hHeld.2.2.1)))))))))), ((cell_far (p := ⟨gb168, _, none⟩) NB153_168.out _).trans (((cell_far (p := ⟨gb168, _, none⟩) NB153_168.out _).trans (((cell_far (p := ⟨gb168, _, none⟩) NB153_168.out _).trans (((cell_far (p := ⟨gb168, _, none⟩) NB153_168.out _).trans (((cell_far (p := ⟨gb168, _, none⟩) NB153_168.out _).trans (hHeld.2.2.2.1)))))))))), ((cell_far (p := ⟨gb168, _, none⟩) NB153_168.out _).trans (((cell_far (p := ⟨gb168, _, none⟩) NB153_168.out _).trans (((cell_far (p := ⟨gb168, _, none⟩) NB153_168.out _).trans (((cell_far (p := ⟨gb168, _, none⟩) NB153_168.out _).trans (((cell_far (p := ⟨gb168, _, none⟩) NB153_168.out _).trans (hHeld.2.2.2.2.1)))))))))), ((cell_far (p := ⟨gb168, _, none⟩) NB153_168.out _).trans (((cell_far (p := ⟨gb168, _, none⟩) NB153_168.out _).trans (((cell_far (p := ⟨gb168, _, none⟩) NB153_168.out _).trans (((cell_far (p := ⟨gb168, _, none⟩) NB153_168.out _).trans (((cell_far (p := ⟨gb168, _, none⟩) NB153_168.out _).trans (hHeld.2.2.2.2.2.1)))))))))), ((cell_far (p := ⟨gb168, _, none⟩) NB153_168.out _).trans (((cell_far (p := ⟨gb168, _, none⟩) NB153_168.out _).trans (((cell_far (p := ⟨gb168, _, none⟩) NB153_168.out _).trans (((cell_far (p := ⟨gb168, _, none⟩) NB153_168.out _).trans (((cell_far (p := ⟨gb168, _, none⟩) NB153_168.out _).trans (hHeld.2.2.2.2.2.2.1)))))))))), ((cell_far (p := ⟨gb168, _, none⟩) NB153_168.out _).trans (((cell_far (p := ⟨gb168, _, none⟩) NB153_168.out _).trans (((cell_far (p := ⟨gb168, _, none⟩) NB153_168.out _).trans (((cell_far (p := ⟨gb168, _, none⟩) NB153_168.out _).trans (((cell_far (p := ⟨gb168, _, none⟩) NB153_168.out _).trans (hHeld.2.2.2.2.2.2.2.1)))))))))), ((cell_far (p := ⟨gb168, _, none⟩) NB153_168.out _).trans (((cell_far (p := ⟨gb168, _, none⟩) NB153_168.out _).trans (((cell_far (p := ⟨gb168, _, none⟩) NB153_168.out _).trans (((cell_far (p := ⟨gb168, _, none⟩) NB153_168.out _).trans (((cell_far (p := ⟨gb168, _, none⟩) NB153_168.out _).trans (hHeld.2.2.2.2.2.2.2.2.1)))))))))), ((cell_far (p := ⟨gb168, _, none⟩) NB153_168.out _).trans (((cell_far (p := ⟨gb168, _, none⟩) NB153_168.out _).trans (((cell_far (p := ⟨gb168, _, none⟩) NB153_168.out _).trans (((cell_far (p := ⟨gb168, _, none⟩) NB153_168.out _).trans (((cell_far (p := ⟨gb168, _, none⟩) NB153_168.out _).trans (hHeld.2.2.2.2.2.2.2.2.2.1)))))))))), ((cell_far (p := ⟨gb168, _, none⟩) NB153_168.out _).trans (((cell_far (p := ⟨gb168, _, none⟩) NB153_168.out _).trans (((cell_far (p := ⟨gb168, _, none⟩) NB153_168.out _).trans (((cell_far (p := ⟨gb168, _, none⟩) NB153_168.out _).trans (((cell_far (p := ⟨gb168, _, none⟩) NB153_168.out _).trans (hHeld.2.2.2.2.2.2.2.2.2.2.1)))))))))), ((cell_far (p := ⟨gb168, _, none⟩) NB159_168.out _).trans (((cell_far (p := ⟨gb168, _, none⟩) NB159_168.out _).trans (((cell_far (p := ⟨gb168, _, none⟩) NB159_168.out _).trans (((cell_far (p := ⟨gb168, _, none⟩) NB159_168.out _).trans (((cell_far (p := ⟨gb168, _, none⟩) NB159_168.out _).trans (hHeld.2.2.2.2.2.2.2.2.2.2.2.1)))))))))), ((cell_far (p := ⟨gb168, _, none⟩) NB159_168.out _).trans (((cell_far (p := ⟨gb168, _, none⟩) NB159_168.out _).trans (((cell_far (p := ⟨gb168, _, none⟩) NB159_168.out _).trans (((cell_far (p := ⟨gb168, _, none⟩) NB159_168.out _).trans (((cell_far (p := ⟨gb168, _, none⟩) NB159_168.out _).trans (hHeld.2.2.2.2.2.2.2.2.2.2.2.2.1)))))))))), ((cell_far (p := ⟨gb168, _, none⟩) NB159_168.out _).trans (((cell_far (p := ⟨gb168, _, none⟩) NB159_168.out _).trans (((cell_far (p := ⟨gb168, _, none⟩) NB159_168.out _).trans (((cell_far (p := ⟨gb168, _, none⟩) NB159_168.out _).trans (((cell_far (p := ⟨gb168, _, none⟩) NB159_168.out _).trans (hHeld.2.2.2.2.2.2.2.2.2.2.2.2.2.1)))))))))), ((cell_far (p := ⟨gb168, _, none⟩) NB159_168.out _).trans (((cell_far (p := ⟨gb168, _, none⟩) NB159_168.out _).trans (((cell_far (p := ⟨gb168, _, none⟩) NB159_168.out _).trans (((cell_far (p := ⟨gb168, _, none⟩) NB159_168.out _).trans (((cell_far (p := ⟨gb168, _, none⟩) NB159_168.out _).trans (hHeld.2.2.2.2.2.2.2.2.2.2.2.2.2.2))))))))))⟩ (fun hHeld => ?_)
    clear hK K
    refine pU 18 9 (tf 19 0) ?_
    refine done_ (done_of HT_.out (by kernel_rfl)) ?_
    by_cases c30 : t167 = true
    ·subst c30
     rw [if_pos rfl] at H
     by_cases c31 : t164 = true
     ·subst c31
      rw [if_pos rfl] at H
      by_cases c32 : a0_0 = 1
      ·rw [if_pos c32] at H
       obtain ⟨c32b0, c32b1⟩ := eqT c32
       clear c32
       (first | rw [c32b0] | (simp only [i64_w, i32_w]; rw [c32b0]) | skip)
       obtain ⟨c33, H⟩ := if_som H
       have LMc33 := Aside0.mk c33
       clear c33
       obtain ⟨y169, hy169⟩ : ∃ y_ : List (S64), y_ = (x5_1 ++ [(⟨(rd_T64 l0_5 x6_1).f0, (rd_T64 l0_5 x6_1).f1, (rd_T64 l0_5 x6_1).f2, (rd_T64 l0_5 x6_1).f3⟩ : S64)]) := ⟨_, rfl⟩
       replace H : (spec_l8Ids.l0 k1 y169 (wrap64 (x6_1 + 1)) a0_0 a0_1 a0_2 a0_3 l0_4 l0_5 l0_6 a0_7 a1_0 l1_1 l1_2) = some r := by first | (rw [hy169]; with_reducible exact H) | (have H2_ := (Option.bind_some _ _).symm.trans H; rw [hy169]; with_reducible exact H2_) | (have H2_ := (Option.bind_some _ _).symm.trans H; with_reducible exact H2_) | with_reducible exact H | (rw [hy169]; exact H) | exact H
       have Ny169 := Aside0.mk hy169
       clear hy169
       have H' := Aside0.mk H
       clear H
       have hnb34 := NB168_153.out
       have hnc34 := NB153_168.out
       have hnb35 := NB168_154.out
       have hnc35 := NB154_168.out
       have hnb36 := NB168_159.out
       have hnc36 := NB159_168.out
       obtain ⟨hcz37_0, hcz37_1, hcz37_2, hcz37_3, hcz37_4⟩ := bc5 BK168.out
       obtain ⟨hfz37_0, hfz37_1, hfz37_2, hfz37_3, hfz37_4⟩ := bf5 BK168.out
       have hnb38 := NB153_154.out
       have hnc38 := NB154_153.out
       have hnb39 := NB153_159.out
       have hnc39 := NB159_153.out
       obtain ⟨hcz40_0, hcz40_1, hcz40_2, hcz40_3, hcz40_4, hcz40_5, hcz40_6, hcz40_7⟩ := bc8 BK153.out
       obtain ⟨hfz40_0, hfz40_1, hfz40_2, hfz40_3, hfz40_4, hfz40_5, hfz40_6, hfz40_7⟩ := bf8 BK153.out
       have hnb41 := NB159_154.out
       have hnc41 := NB154_159.out
       obtain ⟨hcz42_0, hcz42_1, hcz42_2, hcz42_3⟩ := bc4 BK159.out
       obtain ⟨hfz42_0, hfz42_1, hfz42_2, hfz42_3⟩ := bf4 BK159.out
       go_wp2_with (first | ((with_reducible refine gate_builtin (b := .append) (xs := #[.tmp 50, .tmp 52]) rfl ?_); at_builtin; refine Kd.R_append k64 (w0 := w) w.heap.size rfl (.tmp 50) (.tmp 52) 33 64 (.agg #[(.string ⟨#[]⟩), (.string ⟨#[]⟩), (.string ⟨#[]⟩), (.string ⟨#[]⟩)]) 64 rfl Tryd.underlying33 info64 rfl (by decide) (by omega) u5 x5_1 (⟨(rd_T64 l0_5 x6_1).f0, (rd_T64 l0_5 x6_1).f1, (rd_T64 l0_5 x6_1).f2, (rd_T64 l0_5 x6_1).f3⟩ : S64) [.string ((rd_T64 l0_5 x6_1).f0), .string ((rd_T64 l0_5 x6_1).f1), .string ((rd_T64 l0_5 x6_1).f2), .string ((rd_T64 l0_5 x6_1).f3)] (fun k_ => k_ ≠ gb159) (fun _ => False) rfl (by first | (go_simp; done) | (go_simp; rfl)) ?aP (fun _ hk => hk.elim) ?aF ?aO ?aB ?aS ?aL ?_; (case aP => exact k64_mkM _ _ _ (⟨(rd_T64 l0_5 x6_1).f0, (rd_T64 l0_5 x6_1).f1, (rd_T64 l0_5 x6_1).f2, (rd_T64 l0_5 x6_1).f3⟩ : S64)); (case aB => exact hB); (case aF => exact (fun k_ hk => Kd.freshB (g := gb159) (by (with_reducible repeat (first | refine bN ?_ _|refine bD ?_|refine bA ?_ _)); exact pfa5 (hn := NB159_168.out) (by (with_reducible repeat (first | refine bN ?_ _|refine bD ?_|refine bA ?_ _)); exact BK159.out)) k_ hk)); (case aO => exact (by (with_reducible repeat (first|apply rA|apply rN|apply rD)); exact Kd.R_mono (Kd.R_far (p := ⟨gb168, 4, none⟩) (Kd.R_far (p := ⟨gb168, 3, none⟩) (Kd.R_far (p := ⟨gb168, 2, none⟩) (Kd.R_far (p := ⟨gb168, 1, none⟩) (Kd.R_far (p := ⟨gb168, 0, none⟩) (Kd.R_types HO_5.out BK168.out (by decide)) (fun _ hk => hk.2) (.string t162)) (fun _ hk => hk.2) (.string t163)) (fun _ hk => hk.2) (.bool true)) (fun _ hk => hk.2) (.bool t165)) (fun _ hk => hk.2) (.string t166)) (fun _ hk => hk.1))); (case aS => exact (below_size hB)); (case aL => have := LMc33.out; omega); intro v170 w43 ho hb hg hat; rw [← Ny169.out] at ho; replace BK153 := Aside0.mk (blk_grown (g := gb153) (by (with_reducible repeat (first | refine bN ?_ _|refine bD ?_|refine bA ?_ _)); exact pfa5 (hn := NB153_168.out) (by (with_reducible repeat (first | refine bN ?_ _|refine bD ?_|refine bA ?_ _)); exact BK153.out)) hg (Kd.R_ne HO_5.out BK153.out (by decide))); replace BK154 := Aside0.mk (blk_grown (g := gb154) (by (with_reducible repeat (first | refine bN ?_ _|refine bD ?_|refine bA ?_ _)); exact pfa5 (hn := NB154_168.out) (by (with_reducible repeat (first | refine bN ?_ _|refine bD ?_|refine bA ?_ _)); exact BK154.out)) hg (Kd.R_ne HO_5.out BK154.out (by decide))); replace BK159 := Aside0.mk (blk_grown (g := gb159) (by (with_reducible repeat (first | refine bN ?_ _|refine bD ?_|refine bA ?_ _)); exact pfa5 (hn := NB159_168.out) (by (with_reducible repeat (first | refine bN ?_ _|refine bD ?_|refine bA ?_ _)); exact BK159.out)) hg (Kd.R_away HO_5.out (fun _ hk => hk))); replace BK168 := Aside0.mk (blk_grown (g := gb168) (by (with_reducible repeat (first | refine bN ?_ _|refine bD ?_|refine bA ?_ _)); exact put5 (by (with_reducible repeat (first | refine bN ?_ _|refine bD ?_|refine bA ?_ _)); exact BK168.out)) hg (Kd.R_ne HO_5.out BK168.out (by decide))); replace HB := Aside0.mk (hb); have HO171 := Aside0.mk (ho); clear HO_5; clear ho hb hg hat))
       go_roundg k1
       case measure => have := HK1.out; omega
       case rel => exact ⟨(y169), (wrap64 (x6_1 + 1)), rG, H', ⟨by have := HK1.out; omega⟩, ⟨by (with_reducible repeat (first|apply rA|apply rN|apply rD)); exact Kd.R_mono HO171.out (fun _ hk => trivial)⟩, ⟨by (with_reducible repeat (first | refine bN ?_ _|refine bD ?_|refine bA ?_ _)); exact BK153.out⟩, ⟨by (with_reducible repeat (first | refine bN ?_ _|refine bD ?_|refine bA ?_ _)); exact BK154.out⟩, ⟨hB⟩⟩
      ·rw [if_neg c32] at H
       obtain ⟨c32b0, c32b1⟩ := eqF c32
       (first | rw [c32b0] | (simp only [i64_w, i32_w]; rw [c32b0]) | skip)
       have H' := Aside0.mk H
       clear H
       have hnb44 := NB168_153.out
       have hnc44 := NB153_168.out
       have hnb45 := NB168_154.out
       have hnc45 := NB154_168.out
       have hnb46 := NB168_159.out
       have hnc46 := NB159_168.out
       obtain ⟨hcz47_0, hcz47_1, hcz47_2, hcz47_3, hcz47_4⟩ := bc5 BK168.out
       obtain ⟨hfz47_0, hfz47_1, hfz47_2, hfz47_3, hfz47_4⟩ := bf5 BK168.out
       have hnb48 := NB153_154.out
       have hnc48 := NB154_153.out
       have hnb49 := NB153_159.out
       have hnc49 := NB159_153.out
       obtain ⟨hcz50_0, hcz50_1, hcz50_2, hcz50_3, hcz50_4, hcz50_5, hcz50_6, hcz50_7⟩ := bc8 BK153.out
       obtain ⟨hfz50_0, hfz50_1, hfz50_2, hfz50_3, hfz50_4, hfz50_5, hfz50_6, hfz50_7⟩ := bf8 BK153.out
       go_wp2
       go_roundg k1
       case measure => have := HK1.out; omega
       case rel => exact ⟨(x5_1), (wrap64 (x6_1 + 1)), rG, H', ⟨by have := HK1.out; omega⟩, ⟨by (with_reducible repeat (first|apply rA|apply rN|apply rD)); exact Kd.R_mono (Kd.R_far (p := ⟨gb168, 4, none⟩) (Kd.R_far (p := ⟨gb168, 3, none⟩) (Kd.R_far (p := ⟨gb168, 2, none⟩) (Kd.R_far (p := ⟨gb168, 1, none⟩) (Kd.R_far (p := ⟨gb168, 0, none⟩) (Kd.R_types HO_5.out BK168.out (by decide)) (fun _ hk => hk.2) (.string t162)) (fun _ hk => hk.2) (.string t163)) (fun _ hk => hk.2) (.bool true)) (fun _ hk => hk.2) (.bool t165)) (fun _ hk => hk.2) (.string t166)) (fun _ hk => trivial)⟩, ⟨by (with_reducible repeat (first | refine bN ?_ _|refine bD ?_|refine bA ?_ _)); exact pfa5 (hn := NB153_168.out) (by (with_reducible repeat (first | refine bN ?_ _|refine bD ?_|refine bA ?_ _)); exact BK153.out)⟩, ⟨by (with_reducible repeat (first | refine bN ?_ _|refine bD ?_|refine bA ?_ _)); exact pfa5 (hn := NB154_168.out) (by (with_reducible repeat (first | refine bN ?_ _|refine bD ?_|refine bA ?_ _)); exact BK154.out)⟩, ⟨hB⟩⟩
     ·replace c31 := Bool.eq_false_iff.mpr c31
      subst c31
      rw [if_neg (show ¬ (false = true) by decide)] at H
      have H' := Aside0.mk H
      clear H
      have hnb51 := NB168_153.out
      have hnc51 := NB153_168.out
      have hnb52 := NB168_154.out
      have hnc52 := NB154_168.out
      have hnb53 := NB168_159.out
      have hnc53 := NB159_168.out
      obtain ⟨hcz54_0, hcz54_1, hcz54_2, hcz54_3, hcz54_4⟩ := bc5 BK168.out
      obtain ⟨hfz54_0, hfz54_1, hfz54_2, hfz54_3, hfz54_4⟩ := bf5 BK168.out
      go_wp2
      go_roundg k1
      case measure => have := HK1.out; omega
      case rel => exact ⟨(x5_1), (wrap64 (x6_1 + 1)), rG, H', ⟨by have := HK1.out; omega⟩, ⟨by (with_reducible repeat (first|apply rA|apply rN|apply rD)); exact Kd.R_mono (Kd.R_far (p := ⟨gb168, 4, none⟩) (Kd.R_far (p := ⟨gb168, 3, none⟩) (Kd.R_far (p := ⟨gb168, 2, none⟩) (Kd.R_far (p := ⟨gb168, 1, none⟩) (Kd.R_far (p := ⟨gb168, 0, none⟩) (Kd.R_types HO_5.out BK168.out (by decide)) (fun _ hk => hk.2) (.string t162)) (fun _ hk => hk.2) (.string t163)) (fun _ hk => hk.2) (.bool false)) (fun _ hk => hk.2) (.bool t165)) (fun _ hk => hk.2) (.string t166)) (fun _ hk => trivial)⟩, ⟨by (with_reducible repeat (first | refine bN ?_ _|refine bD ?_|refine bA ?_ _)); exact pfa5 (hn := NB153_168.out) (by (with_reducible repeat (first | refine bN ?_ _|refine bD ?_|refine bA ?_ _)); exact BK153.out)⟩, ⟨by (with_reducible repeat (first | refine bN ?_ _|refine bD ?_|refine bA ?_ _)); exact pfa5 (hn := NB154_168.out) (by (with_reducible repeat (first | refine bN ?_ _|refine bD ?_|refine bA ?_ _)); exact BK154.out)⟩, ⟨hB⟩⟩
    ·replace c30 := Bool.eq_false_iff.mpr c30
     subst c30
     rw [if_neg (show ¬ (false = true) by decide)] at H
     have H' := Aside0.mk H
     clear H
     go_wp2
     go_roundg k1
     case measure => have := HK1.out; omega
     case rel => exact ⟨(x5_1), (wrap64 (x6_1 + 1)), rG, H', ⟨by have := HK1.out; omega⟩, ⟨by (with_reducible repeat (first|apply rA|apply rN|apply rD)); exact Kd.R_mono (Kd.R_far (p := ⟨gb168, 4, none⟩) (Kd.R_far (p := ⟨gb168, 3, none⟩) (Kd.R_far (p := ⟨gb168, 2, none⟩) (Kd.R_far (p := ⟨gb168, 1, none⟩) (Kd.R_far (p := ⟨gb168, 0, none⟩) (Kd.R_types HO_5.out BK168.out (by decide)) (fun _ hk => hk.2) (.string t162)) (fun _ hk => hk.2) (.string t163)) (fun _ hk => hk.2) (.bool t164)) (fun _ hk => hk.2) (.bool t165)) (fun _ hk => hk.2) (.string t166)) (fun _ hk => trivial)⟩, ⟨by (with_reducible repeat (first | refine bN ?_ _|refine bD ?_|refine bA ?_ _)); exact pfa5 (hn := NB153_168.out) (by (with_reducible repeat (first | refine bN ?_ _|refine bD ?_|refine bA ?_ _)); exact BK153.out)⟩, ⟨by (with_reducible repeat (first | refine bN ?_ _|refine bD ?_|refine bA ?_ _)); exact pfa5 (hn := NB154_168.out) (by (with_reducible repeat (first | refine bN ?_ _|refine bD ?_|refine bA ?_ _)); exact BK154.out)⟩, ⟨hB⟩⟩
   ·rw [if_neg c7] at H
    have c7b0 : decide (x6_1 < (l0_5.length : Int)) = false := decide_eq_false c7
    clear c7
    have H' := Aside0.mk H
    clear H
    have hnb55 := NB153_154.out
    have hnc55 := NB154_153.out
    obtain ⟨hcz56_0, hcz56_1, hcz56_2, hcz56_3, hcz56_4, hcz56_5, hcz56_6, hcz56_7⟩ := bc8 BK153.out
    obtain ⟨hfz56_0, hfz56_1, hfz56_2, hfz56_3, hfz56_4, hfz56_5, hfz56_6, hfz56_7⟩ := bf8 BK153.out
    go_wp2
    go_loopg [5, 10] k1 (fun kq v5 v10 w' => ∃ (x5_2 : List (S64)) (x10_2 : Int), v10 = .int .i64 x10_2 ∧ Aside0 (spec_l8Ids.l1 kq x5_2 x10_2 a0_0 a0_1 a0_2 a0_3 l0_4 l0_5 l0_6 a0_7 a1_0 l1_1 l1_2 = some r) ∧ Aside0 (kq ≤ k1) ∧ Aside0 (Kd.R k64 64 w' w.heap.size (fun _ => True) v5 x5_2) ∧ Aside0 (w'.heap[gb153]? = some (.cells #[.int .i64 a0_0, .string a0_1, .string a0_2, .string a0_3, (.slice A0_4 l0_4.length c0_4), (.slice A0_5 l0_5.length c0_5), (.slice A0_6 l0_6.length c0_6), .string a0_7] 38 (0, 0))) ∧ Aside0 (w'.heap[gb154]? = some (.cells #[.string a1_0, (.slice A1_1 l1_1.length c1_1), (.slice A1_2 l1_2.length c1_2)] 43 (0, 0))) ∧ Aside0 (Below w.heap.size w w'))
    case atStart => exact ⟨(x5_1), (0), rG, H', ⟨Nat.le_refl _⟩, ⟨by (with_reducible repeat (first|apply rA|apply rN|apply rD)); exact HO_5.out⟩, ⟨by (with_reducible repeat (first | refine bN ?_ _|refine bD ?_|refine bA ?_ _)); exact BK153.out⟩, ⟨by (with_reducible repeat (first | refine bN ?_ _|refine bD ?_|refine bA ?_ _)); exact BK154.out⟩, ⟨hB⟩⟩
    case round =>
     clear H'
     try clear c7; try clear c7b0
     try clear hcz56_0 hcz56_1 hcz56_2 hcz56_3 hcz56_4 hcz56_5 hcz56_6 hcz56_7
     try clear hfz56_0 hfz56_1 hfz56_2 hfz56_3 hfz56_4 hfz56_5 hfz56_6 hfz56_7
     obtain ⟨x5_2, x10_2, rfl, HA, HK2, HO_5, BK153, BK154, HB⟩ := hrel
     cases gk with
     | zero => exact absurd HA.out (by simp [spec_l8Ids.l1])
     | succ k2 =>
      have H := HA.out
      clear HA
      simp only [spec_l8Ids.l1] at H
      by_cases c57 : x10_2 < (l0_6.length : Int)
      ·rw [if_pos c57] at H
       have c57b0 : decide (x10_2 < (l0_6.length : Int)) = true := decide_eq_true c57
       clear c57
       obtain ⟨c58, H⟩ := if_som H
       have c58b0 : decide (0 ≤ x10_2) = true := decide_eq_true c58
       clear c58
       replace H := Option.bind_eq_some_iff.mp H
       obtain ⟨t173, A590, H⟩ := H
       try dsimp only at H
       have A59 := Aside0.mk A590
       clear A590
       obtain ⟨c60, H⟩ := if_som H
       have LMc60 := Aside0.mk c60
       clear c60
       obtain ⟨y176, hy176⟩ : ∃ y_ : List (S64), y_ = (x5_2 ++ t173) := ⟨_, rfl⟩
       replace H : (spec_l8Ids.l1 k2 y176 (wrap64 (x10_2 + 1)) a0_0 a0_1 a0_2 a0_3 l0_4 l0_5 l0_6 a0_7 a1_0 l1_1 l1_2) = some r := by first | (rw [hy176]; with_reducible exact H) | (have H2_ := (Option.bind_some _ _).symm.trans H; rw [hy176]; with_reducible exact H2_) | (have H2_ := (Option.bind_some _ _).symm.trans H; with_reducible exact H2_) | with_reducible exact H | (rw [hy176]; exact H) | exact H
       have Ny176 := Aside0.mk hy176
       clear hy176
       have H' := Aside0.mk H
       clear H
       have hnb61 := NB153_154.out
       have hnc61 := NB154_153.out
       obtain ⟨hcz62_0, hcz62_1, hcz62_2, hcz62_3, hcz62_4, hcz62_5, hcz62_6, hcz62_7⟩ := bc8 BK153.out
       obtain ⟨hfz62_0, hfz62_1, hfz62_2, hfz62_3, hfz62_4, hfz62_5, hfz62_6, hfz62_7⟩ := bf8 BK153.out
       try go_wp2
       replace HO_5 := Aside0.mk (Kd.R_drew HO_5.out)
       replace BK153 := Aside0.mk (blk_drew BK153.out)
       replace BK154 := Aside0.mk (blk_drew BK154.out)
       replace HB := Aside0.mk (below_drew1 HB.out)
       have p172 : 0 ≤ (x10_2 : Int) := odt
       have q172 : x10_2 < (l0_6.length : Int) := odt
       obtain ⟨ad172, A172_4, c172_4, A172_5, c172_5, A172_6, c172_6, e172, hx172_0, hx172_1, hx172_2, hx172_3, hx172_4, hx172_5, hx172_6, hx172_7, hl172_4, hi172_4, hl172_5, hi172_5, hl172_6, hi172_6⟩ := at_T38 HR0_6.out x10_2 p172 q172
       have hw172_7 := hx172_7
       have hw172_6 := hx172_6
       have hw172_5 := hx172_5
       have hw172_4 := hx172_4
       have hw172_3 := hx172_3
       have hw172_2 := hx172_2
       have hw172_1 := hx172_1
       have hw172_0 := hx172_0
       cases e172
       replace hx172_0 := pw_cell_below HB.out hx172_0
       replace hx172_1 := pw_cell_below HB.out hx172_1
       replace hx172_2 := pw_cell_below HB.out hx172_2
       replace hx172_3 := pw_cell_below HB.out hx172_3
       replace hx172_4 := pw_cell_below HB.out hx172_4
       replace hx172_5 := pw_cell_below HB.out hx172_5
       replace hx172_6 := pw_cell_below HB.out hx172_6
       replace hx172_7 := pw_cell_below HB.out hx172_7
       have HR172_4 := Aside0.mk hi172_4
       have HC172_4 := Aside0.mk hl172_4
       clear hi172_4 hl172_4
       have HR172_5 := Aside0.mk hi172_5
       have HC172_5 := Aside0.mk hl172_5
       clear hi172_5 hl172_5
       have HR172_6 := Aside0.mk hi172_6
       have HC172_6 := Aside0.mk hl172_6
       clear hi172_6 hl172_6
       replace p172 := eq_true p172
       replace q172 := eq_true q172
       refine start_ (n := 10) (S := fun w' => w'.cell? ⟨gb153, 0, none⟩ = some (.int .i64 a0_0) ∧ w'.cell? ⟨gb153, 1, none⟩ = some (.string a0_1) ∧ w'.cell? ⟨gb153, 2, none⟩ = some (.string a0_2) ∧ w'.cell? ⟨gb153, 3, none⟩ = some (.string a0_3) ∧ w'.cell? ⟨gb153, 4, none⟩ = some (.slice A0_4 l0_4.length c0_4) ∧ w'.cell? ⟨gb153, 5, none⟩ = some (.slice A0_5 l0_5.length c0_5) ∧ w'.cell? ⟨gb153, 6, none⟩ = some (.slice (some ad172) l0_6.length c0_6) ∧ w'.cell? ⟨gb153, 7, none⟩ = some (.string a0_7) ∧ w'.cell? ⟨gb154, 0, none⟩ = some (.string a1_0) ∧ w'.cell? ⟨gb154, 1, none⟩ = some (.slice A1_1 l1_1.length c1_1) ∧ w'.cell? ⟨gb154, 2, none⟩ = some (.slice A1_2 l1_2.length c1_2) ∧ w'.cell? (ad172.add ((x10_2).toNat * 8)) = some (.int .i64 ((rd_T38 l0_6 x10_2).f0)) ∧ w'.cell? ⟨(ad172.add ((x10_2).toNat * 8)).block, (ad172.add ((x10_2).toNat * 8)).off + 1, none⟩ = some (.string ((rd_T38 l0_6 x10_2).f1)) ∧ w'.cell? ⟨(ad172.add ((x10_2).toNat * 8)).block, (ad172.add ((x10_2).toNat * 8)).off + 2, none⟩ = some (.string ((rd_T38 l0_6 x10_2).f2)) ∧ w'.cell? ⟨(ad172.add ((x10_2).toNat * 8)).block, (ad172.add ((x10_2).toNat * 8)).off + 3, none⟩ = some (.string ((rd_T38 l0_6 x10_2).f3)) ∧ w'.cell? ⟨(ad172.add ((x10_2).toNat * 8)).block, (ad172.add ((x10_2).toNat * 8)).off + 4, none⟩ = some (.slice A172_4 ((rd_T38 l0_6 x10_2).f4).length c172_4) ∧ w'.cell? ⟨(ad172.add ((x10_2).toNat * 8)).block, (ad172.add ((x10_2).toNat * 8)).off + 5, none⟩ = some (.slice A172_5 ((rd_T38 l0_6 x10_2).f5).length c172_5) ∧ w'.cell? ⟨(ad172.add ((x10_2).toNat * 8)).block, (ad172.add ((x10_2).toNat * 8)).off + 6, none⟩ = some (.slice A172_6 ((rd_T38 l0_6 x10_2).f6).length c172_6) ∧ w'.cell? ⟨(ad172.add ((x10_2).toNat * 8)).block, (ad172.add ((x10_2).toNat * 8)).off + 7, none⟩ = some (.string ((rd_T38 l0_6 x10_2).f7))) (ds := []) #[false, false, false, false, false, false, false, false, false, false] (by kernel_rfl) rfl rfl ⟨(blk_cell BK153.out 0).trans rfl, (blk_cell BK153.out 1).trans rfl, (blk_cell BK153.out 2).trans rfl, (blk_cell BK153.out 3).trans rfl, (blk_cell BK153.out 4).trans rfl, (blk_cell BK153.out 5).trans rfl, (blk_cell BK153.out 6).trans rfl, (blk_cell BK153.out 7).trans rfl, (blk_cell BK154.out 0).trans rfl, (blk_cell BK154.out 1).trans rfl, (blk_cell BK154.out 2).trans rfl, (pw_cell_below HB.out hw172_0), (pw_cell_below HB.out hw172_1), (pw_cell_below HB.out hw172_2), (pw_cell_below HB.out hw172_3), (pw_cell_below HB.out hw172_4), (pw_cell_below HB.out hw172_5), (pw_cell_below HB.out hw172_6), (pw_cell_below HB.out hw172_7)⟩ (fun hHeld => ?_); refine with_tabW spec_l8Ids.tab12 spec_l8Ids.bits12 (fun HT_ HW_ => ?_)
       generalize wr.drew = w63 at HO_5 BK153 BK154 HB HR172_4 HR172_5 HR172_6 hx172_0 hx172_1 hx172_2 hx172_3 hx172_4 hx172_5 hx172_6 hx172_7 hHeld ⊢
       refine pU 0 61 (tf 1 9) ?_
       refine pU 1 62 (tf 2 8) ?_
       refine pU 3 64 #[true, true, false, true, false, false, false, false, false, false] ?_
       refine take_ (i := 2) (N := some 63) (v := ?_) (a' := ?_) (tf 4 6) rfl rfl (take_ofW HT_.out HW_.out (by kernel_rfl)) (fun _ _ _ h => h) (Or.inl ⟨by rfl, ?_⟩) hHeld ?_ ?_
       rotate_left
       ·rintro w' ⟨s0, s1, s2, s3, s4, s5, s6, s7, s8, s9, s10, s11, s12, s13, s14, s15, s16, s17, s18⟩
        go_simp
        with_reducible rfl
       rotate_left
       ·simp only [Act.put, sT, sZ, sS, i64_w, i32_w]
        rfl
       refine pU 4 65 (tf 5 5) ?_
       refine take_ (i := 5) (N := some 66) (v := ?_) (a' := ?_) (tf 6 4) rfl rfl (take_ofW HT_.out HW_.out (by kernel_rfl)) (fun _ _ _ h => h) (Or.inl ⟨by rfl, ?_⟩) hHeld ?_ ?_
       rotate_left
       ·rintro w' ⟨s0, s1, s2, s3, s4, s5, s6, s7, s8, s9, s10, s11, s12, s13, s14, s15, s16, s17, s18⟩
        go_simp
        with_reducible rfl
       rotate_left
       ·simp only [Act.put, sT, sZ, sS, i64_w, i32_w]
        rfl
       refine take_ (i := 6) (N := some 67) (v := ?_) (a' := ?_) (tf 7 3) rfl rfl (take_ofW HT_.out HW_.out (by kernel_rfl)) (fun _ _ _ h => h) (Or.inl ⟨by rfl, ?_⟩) hHeld ?_ ?_
       rotate_left
       ·rintro w' ⟨s0, s1, s2, s3, s4, s5, s6, s7, s8, s9, s10, s11, s12, s13, s14, s15, s16, s17, s18⟩
        go_simp
        with_reducible rfl
       rotate_left
       ·simp only [Act.put, sT, sZ, sS, i64_w, i32_w]
        rfl
       refine one_ (i := 7) (N := some 68) (tf 8 2) rfl rfl (one_of HT_.out (by kernel_rfl)) (by decide) (fun K hK => ?_)
       refine goes_ Tryd.func22 (by kernel_rfl) rfl #[.agg #[.int .i64 ((rd_T38 l0_6 x10_2).f0), .string ((rd_T38 l0_6 x10_2).f1), .string ((rd_T38 l0_6 x10_2).f2), .string ((rd_T38 l0_6 x10_2).f3), .slice A172_4 ((rd_T38 l0_6 x10_2).f4).length c172_4, .slice A172_5 ((rd_T38 l0_6 x10_2).f5).length c172_5, .slice A172_6 ((rd_T38 l0_6 x10_2).f6).length c172_6, .string ((rd_T38 l0_6 x10_2).f7)], .agg #[.string a1_0, .slice A1_1 l1_1.length c1_1, .slice A1_2 l1_2.length c1_2]] (by rfl) rfl rfl mA ?_
       with_reducible refine (ih k2 (by have := HK1.out; have := HK2.out; omega) ((rd_T38 l0_6 x10_2).f0) ((rd_T38 l0_6 x10_2).f1) ((rd_T38 l0_6 x10_2).f2) ((rd_T38 l0_6 x10_2).f3) _ _ ((rd_T38 l0_6 x10_2).f4) _ _ ((rd_T38 l0_6 x10_2).f5) _ _ ((rd_T38 l0_6 x10_2).f6) ((rd_T38 l0_6 x10_2).f7) a1_0 _ _ l1_1 _ _ l1_2 t173 _ ?side1 ?side2 ?side3 ?side4 ?side5 ?side6 ?side7 ?side8 ?side9 ?side10 A59.out).mono ?_
       (case side1 => repeat (first | exact (Kd.C_below HR172_4.out HB.out) | (with_reducible refine Kd.C_alloc ?_ _) | (with_reducible refine Kd.C_drewN ?_ _) | (with_reducible refine Kd.C_drew ?_)))
       (case side2 => exact HC172_4.out)
       (case side3 => repeat (first | exact (Kd.C_below HR172_5.out HB.out) | (with_reducible refine Kd.C_alloc ?_ _) | (with_reducible refine Kd.C_drewN ?_ _) | (with_reducible refine Kd.C_drew ?_)))
       (case side4 => exact HC172_5.out)
       (case side5 => repeat (first | exact (Kd.C_below HR172_6.out HB.out) | (with_reducible refine Kd.C_alloc ?_ _) | (with_reducible refine Kd.C_drewN ?_ _) | (with_reducible refine Kd.C_drew ?_)))
       (case side6 => exact HC172_6.out)
       (case side7 => repeat (first | exact (Kd.C_below HR1_1.out HB.out) | (with_reducible refine Kd.C_alloc ?_ _) | (with_reducible refine Kd.C_drewN ?_ _) | (with_reducible refine Kd.C_drew ?_)))
       (case side8 => exact HC1_1.out)
       (case side9 => repeat (first | exact (Kd.C_below HR1_2.out HB.out) | (with_reducible refine Kd.C_alloc ?_ _) | (with_reducible refine Kd.C_drewN ?_ _) | (with_reducible refine Kd.C_drew ?_)))
       (case side10 => exact HC1_2.out)
       rintro e w64 ⟨v174, rfl, ho0, hb⟩
       refine ⟨_, rfl, ?_⟩
       have HO175 := Aside0.mk (Kd.R_lower (Kd.R_new' ho0 (Kd.R_lt (by (with_reducible repeat (first|apply rA|apply rN|apply rD)); exact HO_5.out))) (below_size hB))
       replace HO_5 := Aside0.mk (Kd.R_elder' (by (with_reducible repeat (first|apply rA|apply rN|apply rD)); exact HO_5.out) (Kd.R_base ho0) hb)
       replace BK153 := Aside0.mk (blk_below (g := gb153) (by (with_reducible repeat (first | refine bN ?_ _|refine bD ?_|refine bA ?_ _)); exact BK153.out) hb)
       replace BK154 := Aside0.mk (blk_below (g := gb154) (by (with_reducible repeat (first | refine bN ?_ _|refine bD ?_|refine bA ?_ _)); exact BK154.out) hb)
       replace HB := Aside0.mk (below_step hB hb)
       (try clear hb)
       (try clear hb2)
       (try clear hk)
       (try clear hi)
       (try clear ho0)
       obtain ⟨Ao66, co66, eo66⟩ := Kd.R_slice HO175.out
       (first | subst eo66 | (injection eo66 with f1_ f2_ f3_; have f4_ := f1_.symm; have f5_ := f3_.symm; clear f1_ f2_ f3_; subst f4_; subst f5_))
       refine hK.out _ _ ⟨(blk_cell BK153.out 0).trans rfl, (blk_cell BK153.out 1).trans rfl, (blk_cell BK153.out 2).trans rfl, (blk_cell BK153.out 3).trans rfl, (blk_cell BK153.out 4).trans rfl, (blk_cell BK153.out 5).trans rfl, (blk_cell BK153.out 6).trans rfl, (blk_cell BK153.out 7).trans rfl, (blk_cell BK154.out 0).trans rfl, (blk_cell BK154.out 1).trans rfl, (blk_cell BK154.out 2).trans rfl, (pw_cell_below HB.out hw172_0), (pw_cell_below HB.out hw172_1), (pw_cell_below HB.out hw172_2), (pw_cell_below HB.out hw172_3), (pw_cell_below HB.out hw172_4), (pw_cell_below HB.out hw172_5), (pw_cell_below HB.out hw172_6), (pw_cell_below HB.out hw172_7)⟩ (fun hHeld => ?_)
       clear hK K
       refine norm_ (a' := ?_) ?_ ?_
       rotate_left
       ·show Act.put _ (some 68) _ = _
        simp only [Act.put, sT, sZ, sS, i64_w, i32_w]
        rfl
       refine one_ (i := 8) (N := some 69) (tf 9 1) rfl rfl (one_of HT_.out (by kernel_rfl)) (by decide) (fun K hK => ?_)
       refine Kd.R_append_rows_step k64 (w0 := w) w.heap.size (by rfl) (.tmp 61) (.tmp 68) 33 64 (.agg #[(.string ⟨#[]⟩), (.string ⟨#[]⟩), (.string ⟨#[]⟩), (.string ⟨#[]⟩)]) 64 rfl Tryd.underlying33 info64 rfl (by decide) (by omega) u5 x5_2 t173 _ _ _ (fun k_ => some k_ ≠ (.slice Ao66 t173.length co66 : Value).ownBlock) (fun _ => False) rfl rfl ?aO ?aR (fun _ _ h => h) (fun _ h => h.elim) ?aF ?aB ?aS ?aL ?_
       (case aR => repeat (first | exact (Kd.R_reads' HO175.out).2.2 | (with_reducible refine Kd.C_alloc ?_ _) | (with_reducible refine Kd.C_drewN ?_ _) | (with_reducible refine Kd.C_drew ?_)))
       (case aB => exact hB)
       (case aF => exact (fun k_ hk => Kd.fresh' (Kd.R_lt (by (with_reducible repeat (first|apply rA|apply rN|apply rD)); exact HO175.out)) k_ hk))
       (case aO => exact (by (with_reducible repeat (first|apply rA|apply rN|apply rD)); exact Kd.R_mono HO_5.out (fun _ hk => hk.2)))
       (case aS => exact (below_size hB))
       (case aL => have := LMc60.out; omega)
       intro v177 w65 ho hb hg hat
       rw [← Ny176.out] at ho
       replace BK153 := Aside0.mk (blk_grown (g := gb153) (by (with_reducible repeat (first | refine bN ?_ _|refine bD ?_|refine bA ?_ _)); exact BK153.out) hg (Kd.R_ne HO_5.out BK153.out (by decide)))
       replace BK154 := Aside0.mk (blk_grown (g := gb154) (by (with_reducible repeat (first | refine bN ?_ _|refine bD ?_|refine bA ?_ _)); exact BK154.out) hg (Kd.R_ne HO_5.out BK154.out (by decide)))
       replace HO175 := Aside0.mk (Kd.R_after (ok := (fun _ => True)) (by (with_reducible repeat (first|apply rA|apply rN|apply rD)); exact HO175.out) hg hat)
       replace HB := Aside0.mk (hb)
       have HO178 := Aside0.mk (ho)
       clear HO_5
       clear ho hb hg hat
       refine hK.out _ _ ⟨(blk_cell BK153.out 0).trans rfl, (blk_cell BK153.out 1).trans rfl, (blk_cell BK153.out 2).trans rfl, (blk_cell BK153.out 3).trans rfl, (blk_cell BK153.out 4).trans rfl, (blk_cell BK153.out 5).trans rfl, (blk_cell BK153.out 6).trans rfl, (blk_cell BK153.out 7).trans rfl, (blk_cell BK154.out 0).trans rfl, (blk_cell BK154.out 1).trans rfl, (blk_cell BK154.out 2).trans rfl, (pw_cell_below HB.out hw172_0), (pw_cell_below HB.out hw172_1), (pw_cell_below HB.out hw172_2), (pw_cell_below HB.out hw172_3), (pw_cell_below HB.out hw172_4), (pw_cell_below HB.out hw172_5), (pw_cell_below HB.out hw172_6), (pw_cell_below HB.out hw172_7)⟩ (fun hHeld => ?_)
       clear hK K
       refine norm_ (a' := ?_) ?_ ?_
       rotate_left
       ·show Act.put _ (some 69) _ = _
        simp only [Act.put, sT, sZ, sS, i64_w, i32_w]
        rfl
       refine pU 9 5 (tf 10 0) ?_
       refine done_ (done_of HT_.out (by kernel_rfl)) ?_
       try go_wp2
       go_roundg k2
       case measure => have := HK1.out; have := HK2.out; omega
       case rel => exact ⟨(y176), (wrap64 (x10_2 + 1)), rG, H', ⟨by have := HK1.out; have := HK2.out; omega⟩, ⟨by (with_reducible repeat (first|apply rA|apply rN|apply rD)); exact Kd.R_mono HO178.out (fun _ hk => trivial)⟩, ⟨by (with_reducible repeat (first | refine bN ?_ _|refine bD ?_|refine bA ?_ _)); exact BK153.out⟩, ⟨by (with_reducible repeat (first | refine bN ?_ _|refine bD ?_|refine bA ?_ _)); exact BK154.out⟩, ⟨hB⟩⟩
      ·rw [if_neg c57] at H
       have c57b0 : decide (x10_2 < (l0_6.length : Int)) = false := decide_eq_false c57
       clear c57
       obtain rfl := Option.some.inj H
       have hnb67 := NB153_154.out
       have hnc67 := NB154_153.out
       obtain ⟨hcz68_0, hcz68_1, hcz68_2, hcz68_3, hcz68_4, hcz68_5, hcz68_6, hcz68_7⟩ := bc8 BK153.out
       obtain ⟨hfz68_0, hfz68_1, hfz68_2, hfz68_3, hfz68_4, hfz68_5, hfz68_6, hfz68_7⟩ := bf8 BK153.out
       go_wp2
       go_ret
       exact ⟨_, rE, by (with_reducible repeat (first|apply rA|apply rN|apply rD)); exact HO_5.out, hB⟩

end Go.Proofs.YtdbinpeglamnnaaDoor.PI
