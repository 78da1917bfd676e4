-- Written by the session's program hprint.py, over the kit's print program. Lean checks it.
import Derived.Test.YtdbinpeglamnnaaPXx0
import Derived.Test.YtdbinpeglamnnaaPXx1
namespace Go.Proofs.Ytdbinpeglamnnaa.PX
open Go.RowKit Go.Proofs.YtdbinpeglamnnaaW.PrintWords Go.Proofs.YtdbinpeglamnnaaW.PrintLast Go.Proofs.YtdbinpeglamnnaaW.PrintMore
attribute [local go_sem] max2_int min2_int max_two min_two max_three min_three max_four min_four   -- for this text's walks alone
set_option linter.unusedVariables false
set_option linter.unusedSimpArgs false
set_option maxHeartbeats 8000000
set_option maxRecDepth 100000

/-! ### spec_Merge: function 18 -/
def spec_Merge.l0 : Nat → List (S34) → List (S34) → Int → Option ((List (S34)))
 | 0, _, _, _ => none
 | k + 1, x0, x3, x4 => if x4 < (x0.length : Int) then (if 0 ≤ x4 then (if ((rd_T34 x0 x4).f0) = 2 then (if ((rd_T34 x0 x4).f7).toList = ([] : List UInt8) then (spec_Merge.l0 k x0 x3 (wrap64 (x4 + 1))) else (if (x3.length : Int) > 0 then (if 0 ≤ (wrap64 ((x3.length : Int) - 1)) then (if (wrap64 ((x3.length : Int) - 1)) < (x3.length : Int) then (if ((rd_T34 x3 (wrap64 ((x3.length : Int) - 1))).f0) = 2 then (if ((rd_T34 x3 (wrap64 ((x3.length : Int) - 1))).f7).size + ((rd_T34 x0 x4).f7).size ≤ 9223372036854775807 then (spec_Merge.l0 k x0 (x3.set ((wrap64 ((x3.length : Int) - 1)) : Int).toNat (⟨(rd_T34 x3 (wrap64 ((x3.length : Int) - 1))).f0, (rd_T34 x3 (wrap64 ((x3.length : Int) - 1))).f1, (rd_T34 x3 (wrap64 ((x3.length : Int) - 1))).f2, (rd_T34 x3 (wrap64 ((x3.length : Int) - 1))).f3, (rd_T34 x3 (wrap64 ((x3.length : Int) - 1))).f4, (rd_T34 x3 (wrap64 ((x3.length : Int) - 1))).f5, (rd_T34 x3 (wrap64 ((x3.length : Int) - 1))).f6, ((rd_T34 x3 (wrap64 ((x3.length : Int) - 1))).f7) ++ ((rd_T34 x0 x4).f7)⟩ : S34)) (wrap64 (x4 + 1))) else (none)) else ((spec_l5Copy.f k ((rd_T34 x0 x4).f0) ((rd_T34 x0 x4).f1) ((rd_T34 x0 x4).f2) ((rd_T34 x0 x4).f3) ((rd_T34 x0 x4).f4) ((rd_T34 x0 x4).f5) ((rd_T34 x0 x4).f6) ((rd_T34 x0 x4).f7)).bind fun bt161 => (if x3.length < 977343669134 then (spec_Merge.l0 k x0 (x3 ++ [(⟨bt161.1, bt161.2.1, bt161.2.2.1, bt161.2.2.2.1, bt161.2.2.2.2.1, bt161.2.2.2.2.2.1, bt161.2.2.2.2.2.2.1, bt161.2.2.2.2.2.2.2⟩ : S34)]) (wrap64 (x4 + 1))) else (none)))) else (none)) else (none)) else ((spec_l5Copy.f k ((rd_T34 x0 x4).f0) ((rd_T34 x0 x4).f1) ((rd_T34 x0 x4).f2) ((rd_T34 x0 x4).f3) ((rd_T34 x0 x4).f4) ((rd_T34 x0 x4).f5) ((rd_T34 x0 x4).f6) ((rd_T34 x0 x4).f7)).bind fun bt179 => (if x3.length < 977343669134 then (spec_Merge.l0 k x0 (x3 ++ [(⟨bt179.1, bt179.2.1, bt179.2.2.1, bt179.2.2.2.1, bt179.2.2.2.2.1, bt179.2.2.2.2.2.1, bt179.2.2.2.2.2.2.1, bt179.2.2.2.2.2.2.2⟩ : S34)]) (wrap64 (x4 + 1))) else (none))))) else ((spec_l5Copy.f k ((rd_T34 x0 x4).f0) ((rd_T34 x0 x4).f1) ((rd_T34 x0 x4).f2) ((rd_T34 x0 x4).f3) ((rd_T34 x0 x4).f4) ((rd_T34 x0 x4).f5) ((rd_T34 x0 x4).f6) ((rd_T34 x0 x4).f7)).bind fun bt197 => (if x3.length < 977343669134 then (spec_Merge.l0 k x0 (x3 ++ [(⟨bt197.1, bt197.2.1, bt197.2.2.1, bt197.2.2.2.1, bt197.2.2.2.2.1, bt197.2.2.2.2.2.1, bt197.2.2.2.2.2.2.1, bt197.2.2.2.2.2.2.2⟩ : S34)]) (wrap64 (x4 + 1))) else (none)))) else (none)) else (some x3)
def spec_Merge.f (k : Nat) (l0 : List (S34)) : Option ((List (S34))) := spec_Merge.l0 k l0 (([] : List (S34))) 0
def spec_Merge.T9 : Bool × List (List Nat × List Nat) := (true, [([], []), ([], []), ([1], [1]), ([2], [2]), ([], []), ([], []), ([5], [5]), ([6], [6]), ([4, 7], [4, 7]), ([8], [8]), ([9], [9]), ([], []), ([11], [11]), ([10, 12], [10, 12]), ([0, 3, 0, 1, 2, 3, 4, 5, 6, 7, 8, 9, 10, 11, 12, 13], [0, 3]), ([14, 0, 1, 2, 3, 4, 5, 6, 7, 8, 9, 10, 11, 12, 13], [14]), ([15, 13, 0, 1, 2, 3, 4, 5, 6, 7, 8, 9, 10, 11, 12, 13], [13, 15])])
def spec_Merge.B9 : List Nat := [0, 0, 2, 6, 0, 0, 32, 96, 240, 496, 1008, 0, 2048, 8176, 16383, 32767, 65535]
theorem spec_Merge.tab9 : rtab .any (opsOf Try.f18 9) = spec_Merge.T9 := by kernel_rfl
theorem spec_Merge.bits9 : waitsOk spec_Merge.T9.2 spec_Merge.B9 = true := by kernel_rfl
theorem spec_Merge.calls (k : Nat) (A0 : Option Addr) (c0 : Nat) (l0 : List (S34)) (r : List (S34)) (w : World) (hr0 : Kd.C k34 w A0 l0.length l0) (hc0 : l0.length ≤ c0) (h : spec_Merge.f k l0 = some r) :
  Calls Try.prog 18 #[.slice A0 l0.length c0] w fun e w' => ∃ v0_ : Value, e = .returned (v0_) ∧ Kd.R k34 34 w' w.heap.size (fun _ => True) v0_ r ∧ Below w.heap.size w w' := by
 have hu34 := Try.underlying34
 have HR0 := Aside0.mk hr0
 have HC0 := Aside0.mk hc0
 clear hr0 hc0
 have HB := Aside0.mk (Below.refl w.heap.size w)
 have H : (spec_Merge.l0 k l0 (([] : List (S34))) 0) = some r := h
 clear h
 obtain ⟨y153, hy153⟩ : ∃ y_ : List (S34), y_ = (([] : List (S34))) := ⟨_, rfl⟩
 replace H : (spec_Merge.l0 k l0 y153 0) = some r := by first | (rw [hy153]; with_reducible exact H) | (have H2_ := (Option.bind_some _ _).symm.trans H; rw [hy153]; with_reducible exact H2_) | (have H2_ := (Option.bind_some _ _).symm.trans H; with_reducible exact H2_) | with_reducible exact H | (rw [hy153]; exact H) | exact H
 have Ny153 := Aside0.mk hy153
 clear hy153
 have H' := Aside0.mk H
 clear H
 go_enter Try.func18, Try.ntmps18
 go_wp2_with (first | ((with_reducible refine gate_dst (N := 7) rfl ?_); (try (refine gate_guard (by rfl) ?_; dsimp only)); refine Kd.R_lit k34 _ 34 ?hg (N := 7) ?hd (xs := ([] : List (S34))) (inner := []) (ok := fun _ => True) (okp := fun _ => True) ?hr ?hp (fun _ hk => hk) trivial (Below.refl _ _) (Nat.le_refl _) (by simp) ?_; (case hd => rfl); (case hg => rfl); (case hr => first | (go_simp; done) | (go_simp; rfl)); (case hp => exact (Reps.none _ _)); intro v154 w2 ho3 hb hg_ hnew_; clear hg_ hnew_; (first | rw [← Ny153.out] at ho3 | (simp only [Int.reduceToNat] at ho3; rw [← Ny153.out] at ho3)); have HO155 := Aside0.mk (Kd.R_lower ho3 (below_size hB)); replace HB := Aside0.mk (below_step hB hb); clear hb ho3))
 go_loopg [3, 4] k (fun kq v3 v4 w' => ∃ (x3_1 : List (S34)) (x4_1 : Int), v4 = .int .i64 x4_1 ∧ Aside0 (spec_Merge.l0 kq l0 x3_1 x4_1 = some r) ∧ Aside0 (kq ≤ k) ∧ Aside0 (Kd.R k34 34 w' w.heap.size (fun _ => True) v3 x3_1) ∧ Aside0 (Below w.heap.size w w'))
 case atStart => exact ⟨(y153), (0), rG, H', ⟨Nat.le_refl _⟩, ⟨by (with_reducible repeat (first|apply rA|apply rN|apply rD)); exact HO155.out⟩, ⟨hB⟩⟩
 case round =>
  clear H'
  obtain ⟨x3_1, x4_1, rfl, HA, HK1, HO_3, HB⟩ := hrel
  cases gk with
  | zero => exact absurd HA.out (by simp [spec_Merge.l0])
  | succ k1 =>
   have H := HA.out
   clear HA
   simp only [spec_Merge.l0] at H
   by_cases c4 : x4_1 < (l0.length : Int)
   ·rw [if_pos c4] at H
    have c4b0 : decide (x4_1 < (l0.length : Int)) = true := decide_eq_true c4
    clear c4
    obtain ⟨c5, H⟩ := if_som H
    have c5b0 : decide (0 ≤ x4_1) = true := decide_eq_true c5
    clear c5
    by_cases c6 : ((rd_T34 l0 x4_1).f0) = 2
    ·rw [if_pos c6] at H
     obtain ⟨c6b0, c6b1⟩ := eqT c6
     clear c6
     by_cases c7 : ((rd_T34 l0 x4_1).f7).toList = ([] : List UInt8)
     ·rw [if_pos c7] at H
      obtain ⟨c7b0, c7b1⟩ := eqT c7
      clear c7
      have H' := Aside0.mk H
      clear H
      have p156 : 0 ≤ (x4_1 : Int) := odt
      have q156 : x4_1 < (l0.length : Int) := odt
      obtain ⟨ad156, A156_4, c156_4, A156_5, c156_5, A156_6, c156_6, e156, hx156_0, hx156_1, hx156_2, hx156_3, hx156_4, hx156_5, hx156_6, hx156_7, hl156_4, hi156_4, hl156_5, hi156_5, hl156_6, hi156_6⟩ := at_T34 HR0.out x4_1 p156 q156
      cases e156
      replace hx156_0 := pw_cell_below HB.out hx156_0
      replace hx156_1 := pw_cell_below HB.out hx156_1
      replace hx156_2 := pw_cell_below HB.out hx156_2
      replace hx156_3 := pw_cell_below HB.out hx156_3
      replace hx156_4 := pw_cell_below HB.out hx156_4
      replace hx156_5 := pw_cell_below HB.out hx156_5
      replace hx156_6 := pw_cell_below HB.out hx156_6
      replace hx156_7 := pw_cell_below HB.out hx156_7
      have HR156_4 := Aside0.mk hi156_4
      have HC156_4 := Aside0.mk hl156_4
      clear hi156_4 hl156_4
      have HR156_5 := Aside0.mk hi156_5
      have HC156_5 := Aside0.mk hl156_5
      clear hi156_5 hl156_5
      have HR156_6 := Aside0.mk hi156_6
      have HC156_6 := Aside0.mk hl156_6
      clear hi156_6 hl156_6
      replace p156 := eq_true p156
      replace q156 := eq_true q156
      go_wp2_with (first | ((with_reducible refine gate_dst (N := 5) rfl ?_); (try (refine gate_guard (by rfl) ?_; dsimp only)); refine box_event ?hg (N := 5) ?hd (cs := #[.int .i64 0, .string (⟨#[]⟩ : ByteArray), .string (⟨#[]⟩ : ByteArray), .string (⟨#[]⟩ : ByteArray), .slice none 0 0, .slice none 0 0, .slice none 0 0, .string (⟨#[]⟩ : ByteArray)]) (t := 34) ?hr ?_; (case hd => rfl); (case hg => rfl); (case hr => first | (go_simp; done) | (go_simp; rfl)); intro gb157 hg w8 hbox hb; replace HO_3 := Aside0.mk (Kd.R_below (Kd.R_elderB (by (with_reducible repeat (first|apply rA|apply rN|apply rD)); exact HO_3.out) gb157 (Nat.le_of_eq hg.symm)) hb); have BK157 := Aside0.mk (hbox); have GW157 := Aside0.mk ((by rw [hg]; exact (below_size hB) : w.heap.size ≤ gb157)); have GE157 := Aside0.mk ((by rw [hg]; exact (below_size hB) : w.heap.size ≤ gb157)); replace HB := Aside0.mk (below_step hB hb); clear hb hbox hg; obtain ⟨hcz9_0, hcz9_1, hcz9_2, hcz9_3, hcz9_4, hcz9_5, hcz9_6, hcz9_7⟩ := bc8 BK157.out; obtain ⟨hfz9_0, hfz9_1, hfz9_2, hfz9_3, hfz9_4, hfz9_5, hfz9_6, hfz9_7⟩ := bf8 BK157.out))
      go_roundg k1
      case measure => have := HK1.out; omega
      case rel => exact ⟨(x3_1), (wrap64 (x4_1 + 1)), rG, H', ⟨by have := HK1.out; omega⟩, ⟨by (with_reducible repeat (first|apply rA|apply rN|apply rD)); exact Kd.R_mono (Kd.R_far (p := ⟨gb157, 7, none⟩) (Kd.R_far (p := ⟨gb157, 6, none⟩) (Kd.R_far (p := ⟨gb157, 5, none⟩) (Kd.R_far (p := ⟨gb157, 4, none⟩) (Kd.R_far (p := ⟨gb157, 3, none⟩) (Kd.R_far (p := ⟨gb157, 2, none⟩) (Kd.R_far (p := ⟨gb157, 1, none⟩) (Kd.R_far (p := ⟨gb157, 0, none⟩) (Kd.R_mono HO_3.out (fun k_ hk => (⟨hk, hk.2⟩ : _ ∧ k_ ≠ gb157))) (fun _ hk => hk.2) (.int .i64 ((rd_T34 l0 x4_1).f0))) (fun _ hk => hk.2) (.string ((rd_T34 l0 x4_1).f1))) (fun _ hk => hk.2) (.string ((rd_T34 l0 x4_1).f2))) (fun _ hk => hk.2) (.string ((rd_T34 l0 x4_1).f3))) (fun _ hk => hk.2) (.slice A156_4 ((rd_T34 l0 x4_1).f4).length c156_4)) (fun _ hk => hk.2) (.slice A156_5 ((rd_T34 l0 x4_1).f5).length c156_5)) (fun _ hk => hk.2) (.slice A156_6 ((rd_T34 l0 x4_1).f6).length c156_6)) (fun _ hk => hk.2) (.string ((rd_T34 l0 x4_1).f7))) (fun _ hk => trivial)⟩, ⟨hB⟩⟩
     ·rw [if_neg c7] at H
      obtain ⟨c7b0, c7b1⟩ := eqF c7
      by_cases c10 : (x3_1.length : Int) > 0
      ·rw [if_pos c10] at H
       have c10b0 : decide (0 < (x3_1.length : Int)) = true := decide_eq_true c10
       have c10b1 : decide (0 < x3_1.length) = true := decide_eq_true (by omega)
       clear c10
       obtain ⟨ji11, hji11⟩ : ∃ j_ : Int, (wrap64 ((x3_1.length : Int) - 1)) = j_ := ⟨_, rfl⟩
       replace H : (if 0 ≤ (ji11) then (if (ji11) < (x3_1.length : Int) then (if ((rd_T34 x3_1 (ji11)).f0) = 2 then (if ((rd_T34 x3_1 (ji11)).f7).size + ((rd_T34 l0 x4_1).f7).size ≤ 9223372036854775807 then (spec_Merge.l0 k1 l0 (x3_1.set ((ji11) : Int).toNat (⟨(rd_T34 x3_1 (ji11)).f0, (rd_T34 x3_1 (ji11)).f1, (rd_T34 x3_1 (ji11)).f2, (rd_T34 x3_1 (ji11)).f3, (rd_T34 x3_1 (ji11)).f4, (rd_T34 x3_1 (ji11)).f5, (rd_T34 x3_1 (ji11)).f6, ((rd_T34 x3_1 (ji11)).f7) ++ ((rd_T34 l0 x4_1).f7)⟩ : S34)) (wrap64 (x4_1 + 1))) else (none)) else ((spec_l5Copy.f k1 ((rd_T34 l0 x4_1).f0) ((rd_T34 l0 x4_1).f1) ((rd_T34 l0 x4_1).f2) ((rd_T34 l0 x4_1).f3) ((rd_T34 l0 x4_1).f4) ((rd_T34 l0 x4_1).f5) ((rd_T34 l0 x4_1).f6) ((rd_T34 l0 x4_1).f7)).bind fun bt161 => (if x3_1.length < 977343669134 then (spec_Merge.l0 k1 l0 (x3_1 ++ [(⟨bt161.1, bt161.2.1, bt161.2.2.1, bt161.2.2.2.1, bt161.2.2.2.2.1, bt161.2.2.2.2.2.1, bt161.2.2.2.2.2.2.1, bt161.2.2.2.2.2.2.2⟩ : S34)]) (wrap64 (x4_1 + 1))) else (none)))) else (none)) else (none)) = some r := by first | (rw [hji11] at H; exact H) | (simp only [hji11] at H ⊢; exact H)
       have hji11w : (IntKind.i64.wrap ((x3_1.length : Int) - 1)) = ji11 := (i64_w _).trans hji11
       obtain ⟨c12, H⟩ := if_som H
       have c12b0 : decide (0 ≤ (ji11)) = true := decide_eq_true c12
       clear c12
       obtain ⟨c13, H⟩ := if_som H
       have c13b0 : decide ((ji11) < (x3_1.length : Int)) = true := decide_eq_true c13
       clear c13
       by_cases c14 : ((rd_T34 x3_1 (ji11)).f0) = 2
       ·rw [if_pos c14] at H
        obtain ⟨c14b0, c14b1⟩ := eqT c14
        clear c14
        obtain ⟨c15, H⟩ := if_som H
        obtain ⟨c15b0, c15b1⟩ := fcT c15
        try have c15b2 : (9223372036854775807 < ((rd_T34 x3_1 (ji11)).f7).size + ((rd_T34 l0 x4_1).f7).size) = False := eq_false (Nat.not_lt.2 c15)
        obtain ⟨y160, hy160⟩ : ∃ y_ : List (S34), y_ = (x3_1.set ((ji11) : Int).toNat (⟨(rd_T34 x3_1 (ji11)).f0, (rd_T34 x3_1 (ji11)).f1, (rd_T34 x3_1 (ji11)).f2, (rd_T34 x3_1 (ji11)).f3, (rd_T34 x3_1 (ji11)).f4, (rd_T34 x3_1 (ji11)).f5, (rd_T34 x3_1 (ji11)).f6, ((rd_T34 x3_1 (ji11)).f7) ++ ((rd_T34 l0 x4_1).f7)⟩ : S34)) := ⟨_, rfl⟩
        replace H : (spec_Merge.l0 k1 l0 y160 (wrap64 (x4_1 + 1))) = some r := by first | (rw [hy160]; with_reducible exact H) | (have H2_ := (Option.bind_some _ _).symm.trans H; rw [hy160]; with_reducible exact H2_) | (have H2_ := (Option.bind_some _ _).symm.trans H; with_reducible exact H2_) | with_reducible exact H | (rw [hy160]; exact H) | exact H
        have Ny160 := Aside0.mk hy160
        clear hy160
        have H' := Aside0.mk H
        clear H
        have p156 : 0 ≤ (x4_1 : Int) := odt
        have q156 : x4_1 < (l0.length : Int) := odt
        obtain ⟨ad156, A156_4, c156_4, A156_5, c156_5, A156_6, c156_6, e156, hx156_0, hx156_1, hx156_2, hx156_3, hx156_4, hx156_5, hx156_6, hx156_7, hl156_4, hi156_4, hl156_5, hi156_5, hl156_6, hi156_6⟩ := at_T34 HR0.out x4_1 p156 q156
        cases e156
        replace hx156_0 := pw_cell_below HB.out hx156_0
        replace hx156_1 := pw_cell_below HB.out hx156_1
        replace hx156_2 := pw_cell_below HB.out hx156_2
        replace hx156_3 := pw_cell_below HB.out hx156_3
        replace hx156_4 := pw_cell_below HB.out hx156_4
        replace hx156_5 := pw_cell_below HB.out hx156_5
        replace hx156_6 := pw_cell_below HB.out hx156_6
        replace hx156_7 := pw_cell_below HB.out hx156_7
        have HR156_4 := Aside0.mk hi156_4
        have HC156_4 := Aside0.mk hl156_4
        clear hi156_4 hl156_4
        have HR156_5 := Aside0.mk hi156_5
        have HC156_5 := Aside0.mk hl156_5
        clear hi156_5 hl156_5
        have HR156_6 := Aside0.mk hi156_6
        have HC156_6 := Aside0.mk hl156_6
        clear hi156_6 hl156_6
        replace p156 := eq_true p156
        replace q156 := eq_true q156
        try go_wp2_with (first | ((with_reducible refine gate_dst (N := 5) rfl ?_); (try (refine gate_guard (by rfl) ?_; dsimp only)); refine box_event ?hg (N := 5) ?hd (cs := #[.int .i64 0, .string (⟨#[]⟩ : ByteArray), .string (⟨#[]⟩ : ByteArray), .string (⟨#[]⟩ : ByteArray), .slice none 0 0, .slice none 0 0, .slice none 0 0, .string (⟨#[]⟩ : ByteArray)]) (t := 34) ?hr ?_; (case hd => rfl); (case hg => rfl); (case hr => first | (go_simp; done) | (go_simp; rfl)); intro gb157 hg w17 hbox hb; replace HO_3 := Aside0.mk (Kd.R_below (Kd.R_elderB (by (with_reducible repeat (first|apply rA|apply rN|apply rD)); exact HO_3.out) gb157 (Nat.le_of_eq hg.symm)) hb); have BK157 := Aside0.mk (hbox); have GW157 := Aside0.mk ((by rw [hg]; exact (below_size hB) : w.heap.size ≤ gb157)); have GE157 := Aside0.mk ((by rw [hg]; exact (below_size hB) : w.heap.size ≤ gb157)); replace HB := Aside0.mk (below_step hB hb); clear hb hbox hg; obtain ⟨hcz18_0, hcz18_1, hcz18_2, hcz18_3, hcz18_4, hcz18_5, hcz18_6, hcz18_7⟩ := bc8 BK157.out; obtain ⟨hfz18_0, hfz18_1, hfz18_2, hfz18_3, hfz18_4, hfz18_5, hfz18_6, hfz18_7⟩ := bf8 BK157.out) | ((with_reducible refine gate_store (t := 34) (p := 5) rfl ?_); refine store_event (t := 34) (p := 5) (v := ?vo_w19) (w1 := ((((((((w17.setCell ⟨gb157, 0, none⟩ (.int .i64 ((rd_T34 l0 x4_1).f0))).setCell ⟨gb157, 1, none⟩ (.string ((rd_T34 l0 x4_1).f1))).setCell ⟨gb157, 2, none⟩ (.string ((rd_T34 l0 x4_1).f2))).setCell ⟨gb157, 3, none⟩ (.string ((rd_T34 l0 x4_1).f3))).setCell ⟨gb157, 4, none⟩ (.slice A156_4 ((rd_T34 l0 x4_1).f4).length c156_4)).setCell ⟨gb157, 5, none⟩ (.slice A156_5 ((rd_T34 l0 x4_1).f5).length c156_5)).setCell ⟨gb157, 6, none⟩ (.slice A156_6 ((rd_T34 l0 x4_1).f6).length c156_6)).setCell ⟨gb157, 7, none⟩ (.string ((rd_T34 l0 x4_1).f7)))) ?hg ?ho ?hn ?hr ?_; (case ho => rfl); (case hg => rfl); (case hn => rfl); (case hr => first | (go_simp; done) | (go_simp; rfl)); intro w19 hw; have n0_ : Aside0 (Kd.R k34 34 w19 w.heap.size (fun k_ => k_ ≠ gb157) u3 x3_1) := ⟨(by rw [hw]; exact (by (with_reducible repeat (first|apply rA|apply rN|apply rD)); exact Kd.R_mono (Kd.R_far (p := ⟨gb157, 7, none⟩) (Kd.R_far (p := ⟨gb157, 6, none⟩) (Kd.R_far (p := ⟨gb157, 5, none⟩) (Kd.R_far (p := ⟨gb157, 4, none⟩) (Kd.R_far (p := ⟨gb157, 3, none⟩) (Kd.R_far (p := ⟨gb157, 2, none⟩) (Kd.R_far (p := ⟨gb157, 1, none⟩) (Kd.R_far (p := ⟨gb157, 0, none⟩) (Kd.R_mono HO_3.out (fun k_ hk => (⟨hk, hk.2⟩ : _ ∧ k_ ≠ gb157))) (fun _ hk => hk.2) (.int .i64 ((rd_T34 l0 x4_1).f0))) (fun _ hk => hk.2) (.string ((rd_T34 l0 x4_1).f1))) (fun _ hk => hk.2) (.string ((rd_T34 l0 x4_1).f2))) (fun _ hk => hk.2) (.string ((rd_T34 l0 x4_1).f3))) (fun _ hk => hk.2) (.slice A156_4 ((rd_T34 l0 x4_1).f4).length c156_4)) (fun _ hk => hk.2) (.slice A156_5 ((rd_T34 l0 x4_1).f5).length c156_5)) (fun _ hk => hk.2) (.slice A156_6 ((rd_T34 l0 x4_1).f6).length c156_6)) (fun _ hk => hk.2) (.string ((rd_T34 l0 x4_1).f7))) (fun _ hk => hk.1.2)))⟩; have n1_ : Aside0 (w19.heap[gb157]? = some (.cells #[.int .i64 ((rd_T34 l0 x4_1).f0), .string ((rd_T34 l0 x4_1).f1), .string ((rd_T34 l0 x4_1).f2), .string ((rd_T34 l0 x4_1).f3), .slice A156_4 ((rd_T34 l0 x4_1).f4).length c156_4, .slice A156_5 ((rd_T34 l0 x4_1).f5).length c156_5, .slice A156_6 ((rd_T34 l0 x4_1).f6).length c156_6, .string ((rd_T34 l0 x4_1).f7)] 34 (0, 0))) := ⟨(by rw [hw]; exact (by (with_reducible repeat (first | refine bN ?_ _|refine bD ?_|refine bA ?_ _)); exact put8 (by (with_reducible repeat (first | refine bN ?_ _|refine bD ?_|refine bA ?_ _)); exact BK157.out)))⟩; have n2_ : Aside0 (Below w.heap.size w w19) := ⟨(by rw [hw]; exact hB)⟩; clear hw; clear HO_3; clear BK157; clear HB; have HO_3 := n0_; have BK157 := n1_; have HB := n2_; clear n0_ n1_ n2_; obtain ⟨hcz20_0, hcz20_1, hcz20_2, hcz20_3, hcz20_4, hcz20_5, hcz20_6, hcz20_7⟩ := bc8 BK157.out; obtain ⟨hfz20_0, hfz20_1, hfz20_2, hfz20_3, hfz20_4, hfz20_5, hfz20_6, hfz20_7⟩ := bf8 BK157.out; obtain ⟨Ao21, co21, eo21⟩ := Kd.R_slice HO_3.out; subst eo21; have p158 : 0 ≤ ((ji11) : Int) := odt; have q158 : (ji11) < (x3_1.length : Int) := odt; obtain ⟨ad158, A158_4, c158_4, A158_5, c158_5, A158_6, c158_6, e158, hx158_0, hx158_1, hx158_2, hx158_3, hx158_4, hx158_5, hx158_6, hx158_7, hl158_4, hi158_4, hl158_5, hi158_5, hl158_6, hi158_6⟩ := at_T34 (Kd.R_reads' HO_3.out).2.2 (ji11) p158 q158; cases e158; obtain ⟨ce158, hce158, hMe158, hcc158⟩ := Kd.R_get HO_3.out z34 (ji11) p158 (by first | exact q158 | exact odt | (have e_ := (Kd.R_reads' HO_3.out).1; omega)); obtain ⟨ve158_4, ve158_5, ve158_6, rfl, ge158_4, ge158_5, ge158_6⟩ := k34_openM hMe158; have hv158_4 := hcc158 4 _ rfl; rw [add_field _ _ 4 (by omega)] at hv158_4; replace hv158_4 := Option.some.inj (hv158_4.symm.trans hx158_4); rw [hv158_4] at ge158_4; have HL158_4 := Aside0.mk (show Kd.R k88 88 _ _ _ _ ((rd_T34 x3_1 (ji11)).f4) from ge158_4); clear hv158_4 ge158_4; have hv158_5 := hcc158 5 _ rfl; rw [add_field _ _ 5 (by omega)] at hv158_5; replace hv158_5 := Option.some.inj (hv158_5.symm.trans hx158_5); rw [hv158_5] at ge158_5; have HL158_5 := Aside0.mk (show Kd.R k90 90 _ _ _ _ ((rd_T34 x3_1 (ji11)).f5) from ge158_5); clear hv158_5 ge158_5; have hv158_6 := hcc158 6 _ rfl; rw [add_field _ _ 6 (by omega)] at hv158_6; replace hv158_6 := Option.some.inj (hv158_6.symm.trans hx158_6); rw [hv158_6] at ge158_6; have HL158_6 := Aside0.mk (show Kd.R k34 34 _ _ _ _ ((rd_T34 x3_1 (ji11)).f6) from ge158_6); clear hv158_6 ge158_6; clear hcc158 hce158; have HR158_4 := Aside0.mk hi158_4; have HC158_4 := Aside0.mk hl158_4; clear hi158_4 hl158_4; have HR158_5 := Aside0.mk hi158_5; have HC158_5 := Aside0.mk hl158_5; clear hi158_5 hl158_5; have HR158_6 := Aside0.mk hi158_6; have HC158_6 := Aside0.mk hl158_6; clear hi158_6 hl158_6; replace p158 := eq_true p158; replace q158 := eq_true q158))
        replace HO_3 := Aside0.mk (Kd.R_drew HO_3.out)
        replace HL158_4 := Aside0.mk (Kd.R_drew HL158_4.out)
        replace HL158_5 := Aside0.mk (Kd.R_drew HL158_5.out)
        replace HL158_6 := Aside0.mk (Kd.R_drew HL158_6.out)
        replace BK157 := Aside0.mk (blk_drew BK157.out)
        replace HR158_4 := Aside0.mk (Kd.C_drew HR158_4.out)
        replace HR158_5 := Aside0.mk (Kd.C_drew HR158_5.out)
        replace HR158_6 := Aside0.mk (Kd.C_drew HR158_6.out)
        replace HB := Aside0.mk (below_drew1 HB.out)
        have p159 : 0 ≤ ((ji11) : Int) := odt
        have q159 : (ji11) < (x3_1.length : Int) := odt
        obtain ⟨ad159, A159_4, c159_4, A159_5, c159_5, A159_6, c159_6, e159, hx159_0, hx159_1, hx159_2, hx159_3, hx159_4, hx159_5, hx159_6, hx159_7, hl159_4, hi159_4, hl159_5, hi159_5, hl159_6, hi159_6⟩ := at_T34 (Kd.R_reads' HO_3.out).2.2 (ji11) p159 q159
        obtain rfl : ad158 = ad159 := (by injection e159)
        obtain ⟨ce159, hce159, hMe159, hcc159⟩ := Kd.R_get HO_3.out z34 (ji11) p159 (by first | exact q159 | exact odt | (have e_ := (Kd.R_reads' HO_3.out).1; omega))
        obtain ⟨ve159_4, ve159_5, ve159_6, rfl, ge159_4, ge159_5, ge159_6⟩ := k34_openM hMe159
        have hv159_4 := hcc159 4 _ rfl
        rw [add_field _ _ 4 (by omega)] at hv159_4
        replace hv159_4 := Option.some.inj (hv159_4.symm.trans hx159_4)
        rw [hv159_4] at ge159_4
        have HL159_4 := Aside0.mk (show Kd.R k88 88 _ _ _ _ ((rd_T34 x3_1 (ji11)).f4) from ge159_4)
        clear hv159_4 ge159_4
        have hv159_5 := hcc159 5 _ rfl
        rw [add_field _ _ 5 (by omega)] at hv159_5
        replace hv159_5 := Option.some.inj (hv159_5.symm.trans hx159_5)
        rw [hv159_5] at ge159_5
        have HL159_5 := Aside0.mk (show Kd.R k90 90 _ _ _ _ ((rd_T34 x3_1 (ji11)).f5) from ge159_5)
        clear hv159_5 ge159_5
        have hv159_6 := hcc159 6 _ rfl
        rw [add_field _ _ 6 (by omega)] at hv159_6
        replace hv159_6 := Option.some.inj (hv159_6.symm.trans hx159_6)
        rw [hv159_6] at ge159_6
        have HL159_6 := Aside0.mk (show Kd.R k34 34 _ _ _ _ ((rd_T34 x3_1 (ji11)).f6) from ge159_6)
        clear hv159_6 ge159_6
        clear hcc159 hce159
        have HR159_4 := Aside0.mk hi159_4
        have HC159_4 := Aside0.mk hl159_4
        clear hi159_4 hl159_4
        have HR159_5 := Aside0.mk hi159_5
        have HC159_5 := Aside0.mk hl159_5
        clear hi159_5 hl159_5
        have HR159_6 := Aside0.mk hi159_6
        have HC159_6 := Aside0.mk hl159_6
        clear hi159_6 hl159_6
        replace p159 := eq_true p159
        replace q159 := eq_true q159
        have p16 : 0 ≤ ((ji11) : Int) := odt
        have q16 : ((ji11) : Int) < ((x3_1.length : Int) : Int) := odt
        obtain ⟨go16, co16, eo16, gb16, gl16, cl16, HG16⟩ := Kd.R_form HO_3.out (by omega)
        (first | cases eo16 | (injection eo16 with ea_ en_ ec_; (first | subst ea_ | (injection ea_ with ea_; subst ea_)); subst ec_; clear en_))
        have GB16 := Aside0.mk gb16
        have GG16 := Aside0.mk HG16
        clear gb16 gl16 HG16
        (first | simp only [add_plain] at hx158_0 | skip)
        (first | simp only [add_plain] at hx158_1 | skip)
        (first | simp only [add_plain] at hx158_2 | skip)
        (first | simp only [add_plain] at hx158_3 | skip)
        (first | simp only [add_plain] at hx158_4 | skip)
        (first | simp only [add_plain] at hx158_5 | skip)
        (first | simp only [add_plain] at hx158_6 | skip)
        (first | simp only [add_plain] at hx158_7 | skip)
        (first | simp only [add_plain] at hx159_0 | skip)
        (first | simp only [add_plain] at hx159_1 | skip)
        (first | simp only [add_plain] at hx159_2 | skip)
        (first | simp only [add_plain] at hx159_3 | skip)
        (first | simp only [add_plain] at hx159_4 | skip)
        (first | simp only [add_plain] at hx159_5 | skip)
        (first | simp only [add_plain] at hx159_6 | skip)
        (first | simp only [add_plain] at hx159_7 | skip)
        obtain ⟨ce16, hcl16, hM16, hcc16, hfr16⟩ := Kd.R_elem HO_3.out z34 ((ji11) : Int) p16 q16
        obtain ⟨ve16_4, ve16_5, ve16_6, rfl, ge16_4, ge16_5, ge16_6⟩ := k34_openM hM16
        have hx16_0 : World.cell? _ ⟨go16, ((ji11) : Int).toNat * 8, none⟩ = some (.int .i64 ((rd_T34 x3_1 (ji11)).f0)) := hcc16 0 _ rfl
        have hx16_1 : World.cell? _ ⟨go16, ((ji11) : Int).toNat * 8 + 1, none⟩ = some (.string ((rd_T34 x3_1 (ji11)).f1)) := hcc16 1 _ rfl
        have hx16_2 : World.cell? _ ⟨go16, ((ji11) : Int).toNat * 8 + 2, none⟩ = some (.string ((rd_T34 x3_1 (ji11)).f2)) := hcc16 2 _ rfl
        have hx16_3 : World.cell? _ ⟨go16, ((ji11) : Int).toNat * 8 + 3, none⟩ = some (.string ((rd_T34 x3_1 (ji11)).f3)) := hcc16 3 _ rfl
        have hx16_4 : World.cell? _ ⟨go16, ((ji11) : Int).toNat * 8 + 4, none⟩ = some (ve16_4) := hcc16 4 _ rfl
        have hx16_5 : World.cell? _ ⟨go16, ((ji11) : Int).toNat * 8 + 5, none⟩ = some (ve16_5) := hcc16 5 _ rfl
        have hx16_6 : World.cell? _ ⟨go16, ((ji11) : Int).toNat * 8 + 6, none⟩ = some (ve16_6) := hcc16 6 _ rfl
        have hx16_7 : World.cell? _ ⟨go16, ((ji11) : Int).toNat * 8 + 7, none⟩ = some (.string ((rd_T34 x3_1 (ji11)).f7)) := hcc16 7 _ rfl
        have hf16_0 : World.frozen? _ ⟨go16, ((ji11) : Int).toNat * 8, none⟩ = false := hfr16 0
        have hf16_1 : World.frozen? _ ⟨go16, ((ji11) : Int).toNat * 8 + 1, none⟩ = false := hfr16 1
        have hf16_2 : World.frozen? _ ⟨go16, ((ji11) : Int).toNat * 8 + 2, none⟩ = false := hfr16 2
        have hf16_3 : World.frozen? _ ⟨go16, ((ji11) : Int).toNat * 8 + 3, none⟩ = false := hfr16 3
        have hf16_4 : World.frozen? _ ⟨go16, ((ji11) : Int).toNat * 8 + 4, none⟩ = false := hfr16 4
        have hf16_5 : World.frozen? _ ⟨go16, ((ji11) : Int).toNat * 8 + 5, none⟩ = false := hfr16 5
        have hf16_6 : World.frozen? _ ⟨go16, ((ji11) : Int).toNat * 8 + 6, none⟩ = false := hfr16 6
        have hf16_7 : World.frozen? _ ⟨go16, ((ji11) : Int).toNat * 8 + 7, none⟩ = false := hfr16 7
        clear hcl16 hcc16 hfr16 hM16
        replace p16 := eq_true p16
        replace q16 := eq_true q16
        obtain ⟨ce23, hcl23, hM23, hcc23, hfr23⟩ := Kd.R_elem HO_3.out z34 ((ji11) : Int) (odt) (by have h_ : ((ji11) : Int) < ((x3_1.length : Int) : Int) := odt; first | exact h_ | (have e_ := (Kd.R_reads' HO_3.out).1; omega) | simpa using h_)
        obtain ⟨ve23_4, ve23_5, ve23_6, rfl, ge23_4, ge23_5, ge23_6⟩ := k34_openM hM23
        have HP23 := (Kd.R_seg HO_3.out ((ji11) : Int) (odt) (by have h_ : ((ji11) : Int) < ((x3_1.length : Int) : Int) := odt; first | exact h_ | (have e_ := (Kd.R_reads' HO_3.out).1; omega) | simpa using h_) (seg := [.string (((rd_T34 x3_1 (ji11)).f7) ++ ((rd_T34 l0 x4_1).f7))]) (j := 7) hcl23 hcc23 (show 8 ≤ 8 from by decide) (x' := (⟨(rd_T34 x3_1 (ji11)).f0, (rd_T34 x3_1 (ji11)).f1, (rd_T34 x3_1 (ji11)).f2, (rd_T34 x3_1 (ji11)).f3, (rd_T34 x3_1 (ji11)).f4, (rd_T34 x3_1 (ji11)).f5, (rd_T34 x3_1 (ji11)).f6, ((rd_T34 x3_1 (ji11)).f7) ++ ((rd_T34 l0 x4_1).f7)⟩ : S34)) (k34_mkM _ _ _ (⟨(rd_T34 x3_1 (ji11)).f0, (rd_T34 x3_1 (ji11)).f1, (rd_T34 x3_1 (ji11)).f2, (rd_T34 x3_1 (ji11)).f3, (rd_T34 x3_1 (ji11)).f4, (rd_T34 x3_1 (ji11)).f5, (rd_T34 x3_1 (ji11)).f6, ((rd_T34 x3_1 (ji11)).f7) ++ ((rd_T34 l0 x4_1).f7)⟩ : S34) ge23_4 ge23_5 ge23_6) (fun _ hk => hk)).1
        rw [← Ny160.out] at HP23
        have HQ23 := Aside0.mk HP23
        clear hcl23 hcc23 hfr23 hM23 HP23
        refine start_ (n := 17) (S := fun w' => w'.cell? ⟨gb157, 0, none⟩ = some (.int .i64 ((rd_T34 l0 x4_1).f0)) ∧ w'.cell? ⟨gb157, 1, none⟩ = some (.string ((rd_T34 l0 x4_1).f1)) ∧ w'.cell? ⟨gb157, 2, none⟩ = some (.string ((rd_T34 l0 x4_1).f2)) ∧ w'.cell? ⟨gb157, 3, none⟩ = some (.string ((rd_T34 l0 x4_1).f3)) ∧ w'.cell? ⟨gb157, 4, none⟩ = some (.slice A156_4 ((rd_T34 l0 x4_1).f4).length c156_4) ∧ w'.cell? ⟨gb157, 5, none⟩ = some (.slice A156_5 ((rd_T34 l0 x4_1).f5).length c156_5) ∧ w'.cell? ⟨gb157, 6, none⟩ = some (.slice A156_6 ((rd_T34 l0 x4_1).f6).length c156_6) ∧ w'.cell? ⟨gb157, 7, none⟩ = some (.string ((rd_T34 l0 x4_1).f7)) ∧ w'.cell? ⟨go16, ((ji11)).toNat * 8, none⟩ = some (.int .i64 ((rd_T34 x3_1 (ji11)).f0)) ∧ w'.cell? ⟨go16, ((ji11)).toNat * 8 + 1, none⟩ = some (.string ((rd_T34 x3_1 (ji11)).f1)) ∧ w'.cell? ⟨go16, ((ji11)).toNat * 8 + 2, none⟩ = some (.string ((rd_T34 x3_1 (ji11)).f2)) ∧ w'.cell? ⟨go16, ((ji11)).toNat * 8 + 3, none⟩ = some (.string ((rd_T34 x3_1 (ji11)).f3)) ∧ w'.cell? ⟨go16, ((ji11)).toNat * 8 + 4, none⟩ = some (.slice A159_4 ((rd_T34 x3_1 (ji11)).f4).length c159_4) ∧ w'.cell? ⟨go16, ((ji11)).toNat * 8 + 5, none⟩ = some (.slice A159_5 ((rd_T34 x3_1 (ji11)).f5).length c159_5) ∧ w'.cell? ⟨go16, ((ji11)).toNat * 8 + 6, none⟩ = some (.slice A159_6 ((rd_T34 x3_1 (ji11)).f6).length c159_6) ∧ w'.cell? ⟨go16, ((ji11)).toNat * 8 + 7, none⟩ = some (.string ((rd_T34 x3_1 (ji11)).f7))) (ds := [16]) #[false, false, false, false, false, false, false, false, false, false, false, false, false, false, false, false, false] (by kernel_rfl) rfl rfl ⟨(blk_cell BK157.out 0).trans rfl, (blk_cell BK157.out 1).trans rfl, (blk_cell BK157.out 2).trans rfl, (blk_cell BK157.out 3).trans rfl, (blk_cell BK157.out 4).trans rfl, (blk_cell BK157.out 5).trans rfl, (blk_cell BK157.out 6).trans rfl, (blk_cell BK157.out 7).trans rfl, hx159_0, hx159_1, hx159_2, hx159_3, hx159_4, hx159_5, hx159_6, hx159_7⟩ (fun hHeld => ?_); refine with_tabW spec_Merge.tab9 spec_Merge.bits9 (fun HT_ HW_ => ?_)
        generalize w19.drew = w22 at HO_3 HL158_4 HL158_5 HL158_6 BK157 HR158_4 HR158_5 HR158_6 HB GG16 HL159_4 HL159_5 HL159_6 HQ23 HR159_4 HR159_5 HR159_6 hf16_0 hf16_1 hf16_2 hf16_3 hf16_4 hf16_5 hf16_6 hf16_7 hx158_0 hx158_1 hx158_2 hx158_3 hx158_4 hx158_5 hx158_6 hx158_7 hx159_0 hx159_1 hx159_2 hx159_3 hx159_4 hx159_5 hx159_6 hx159_7 hx16_0 hx16_1 hx16_2 hx16_3 hx16_4 hx16_5 hx16_6 hx16_7 hHeld ⊢
        refine pU 0 37 (tf 1 16) ?_
        refine pU 1 38 (tf 2 15) ?_
        refine pU 2 39 (tf 3 14) ?_
        refine pU 3 40 (tf 4 13) ?_
        refine pU 4 41 (tf 5 12) ?_
        refine pU 5 42 (tf 6 11) ?_
        refine pU 6 43 (tf 7 10) ?_
        refine pU 7 44 (tf 8 9) ?_
        refine pU 8 45 (tf 9 8) ?_
        refine pU 9 46 (tf 10 7) ?_
        refine pU 11 48 #[true, true, true, true, true, true, true, true, true, true, false, true, false, false, false, false, false] ?_
        refine take_ (i := 10) (N := some 47) (v := ?_) (a' := ?_) (tf 12 5) rfl rfl (take_ofW HT_.out HW_.out (by kernel_rfl)) (fun _ _ _ h => h) (Or.inl ⟨by rfl, ?_⟩) hHeld ?_ ?_
        rotate_left
        ·rintro w' ⟨s0, s1, s2, s3, s4, s5, s6, s7, s8, s9, s10, s11, s12, s13, s14, s15⟩
         go_simp
         with_reducible rfl
        rotate_left
        ·simp only [Act.put, sT, sZ, sS, i64_w, i32_w]
         rfl
        refine take_ (i := 12) (N := some 49) (v := ?_) (a' := ?_) (tf 13 4) rfl rfl (take_ofW HT_.out HW_.out (by kernel_rfl)) (fun _ _ _ h => h) (Or.inl ⟨by rfl, ?_⟩) hHeld ?_ ?_
        rotate_left
        ·rintro w' ⟨s0, s1, s2, s3, s4, s5, s6, s7, s8, s9, s10, s11, s12, s13, s14, s15⟩
         go_simp
         with_reducible rfl
        rotate_left
        ·simp only [Act.put, sT, sZ, sS, i64_w, i32_w]
         rfl
        refine pU 13 50 (tf 14 3) ?_
        refine pU 14 51 (tf 15 2) ?_
        refine pU 15 52 (tf 16 1) ?_
        refine last_ (i := 16) (N := none) (tf 17 0) rfl rfl (one_of HT_.out (by kernel_rfl)) (by decide) (fun K hK => ?_)
        refine skip_ (w1 := ?_) (by rfl) rfl ?_ ?_
        rotate_left
        ·go_simp
         rfl
        refine hK.out _ _ ?_
        clear hK K
        refine done_ (done_of HT_.out (by kernel_rfl)) ?_
        try go_wp2
        go_roundg k1
        case measure => have := HK1.out; omega
        case rel => exact ⟨(y160), (wrap64 (x4_1 + 1)), rG, H', ⟨by have := HK1.out; omega⟩, ⟨by (with_reducible repeat (first|apply rA|apply rN|apply rD)); exact Kd.R_mono HQ23.out (fun _ hk => trivial)⟩, ⟨by repeat (first|(with_reducible first|exact HB.out|apply zA|apply zN|apply zD | refine below_set ?_ GB16.out | refine below_set ?_ GE157.out) | exact HB.out)⟩⟩
       ·rw [if_neg c14] at H
        obtain ⟨c14b0, c14b1⟩ := eqF c14
        replace H := Option.bind_eq_some_iff.mp H
        obtain ⟨⟨t161, t162, t163, t164, t165, t168, t171, t174⟩, A240, H⟩ := H
        try dsimp only at H
        have A24 := Aside0.mk A240
        clear A240
        obtain ⟨c25, H⟩ := if_som H
        have LMc25 := Aside0.mk c25
        clear c25
        obtain ⟨y176, hy176⟩ : ∃ y_ : List (S34), y_ = (x3_1 ++ [(⟨t161, t162, t163, t164, t165, t168, t171, t174⟩ : S34)]) := ⟨_, rfl⟩
        replace H : (spec_Merge.l0 k1 l0 y176 (wrap64 (x4_1 + 1))) = some r := by first | (rw [hy176]; with_reducible exact H) | (have H2_ := (Option.bind_some _ _).symm.trans H; rw [hy176]; with_reducible exact H2_) | (have H2_ := (Option.bind_some _ _).symm.trans H; with_reducible exact H2_) | with_reducible exact H | (rw [hy176]; exact H) | exact H
        have Ny176 := Aside0.mk hy176
        clear hy176
        have H' := Aside0.mk H
        clear H
        have p156 : 0 ≤ (x4_1 : Int) := odt
        have q156 : x4_1 < (l0.length : Int) := odt
        obtain ⟨ad156, A156_4, c156_4, A156_5, c156_5, A156_6, c156_6, e156, hx156_0, hx156_1, hx156_2, hx156_3, hx156_4, hx156_5, hx156_6, hx156_7, hl156_4, hi156_4, hl156_5, hi156_5, hl156_6, hi156_6⟩ := at_T34 HR0.out x4_1 p156 q156
        cases e156
        replace hx156_0 := pw_cell_below HB.out hx156_0
        replace hx156_1 := pw_cell_below HB.out hx156_1
        replace hx156_2 := pw_cell_below HB.out hx156_2
        replace hx156_3 := pw_cell_below HB.out hx156_3
        replace hx156_4 := pw_cell_below HB.out hx156_4
        replace hx156_5 := pw_cell_below HB.out hx156_5
        replace hx156_6 := pw_cell_below HB.out hx156_6
        replace hx156_7 := pw_cell_below HB.out hx156_7
        have HR156_4 := Aside0.mk hi156_4
        have HC156_4 := Aside0.mk hl156_4
        clear hi156_4 hl156_4
        have HR156_5 := Aside0.mk hi156_5
        have HC156_5 := Aside0.mk hl156_5
        clear hi156_5 hl156_5
        have HR156_6 := Aside0.mk hi156_6
        have HC156_6 := Aside0.mk hl156_6
        clear hi156_6 hl156_6
        replace p156 := eq_true p156
        replace q156 := eq_true q156
        go_wp2_with (first | ((with_reducible refine gate_dst (N := 5) rfl ?_); (try (refine gate_guard (by rfl) ?_; dsimp only)); refine box_event ?hg (N := 5) ?hd (cs := #[.int .i64 0, .string (⟨#[]⟩ : ByteArray), .string (⟨#[]⟩ : ByteArray), .string (⟨#[]⟩ : ByteArray), .slice none 0 0, .slice none 0 0, .slice none 0 0, .string (⟨#[]⟩ : ByteArray)]) (t := 34) ?hr ?_; (case hd => rfl); (case hg => rfl); (case hr => first | (go_simp; done) | (go_simp; rfl)); intro gb157 hg w26 hbox hb; replace HO_3 := Aside0.mk (Kd.R_below (Kd.R_elderB (by (with_reducible repeat (first|apply rA|apply rN|apply rD)); exact HO_3.out) gb157 (Nat.le_of_eq hg.symm)) hb); have BK157 := Aside0.mk (hbox); have GW157 := Aside0.mk ((by rw [hg]; exact (below_size hB) : w.heap.size ≤ gb157)); have GE157 := Aside0.mk ((by rw [hg]; exact (below_size hB) : w.heap.size ≤ gb157)); replace HB := Aside0.mk (below_step hB hb); clear hb hbox hg; obtain ⟨hcz27_0, hcz27_1, hcz27_2, hcz27_3, hcz27_4, hcz27_5, hcz27_6, hcz27_7⟩ := bc8 BK157.out; obtain ⟨hfz27_0, hfz27_1, hfz27_2, hfz27_3, hfz27_4, hfz27_5, hfz27_6, hfz27_7⟩ := bf8 BK157.out) | ((with_reducible refine gate_store (t := 34) (p := 5) rfl ?_); refine store_event (t := 34) (p := 5) (v := ?vo_w28) (w1 := ((((((((w26.setCell ⟨gb157, 0, none⟩ (.int .i64 ((rd_T34 l0 x4_1).f0))).setCell ⟨gb157, 1, none⟩ (.string ((rd_T34 l0 x4_1).f1))).setCell ⟨gb157, 2, none⟩ (.string ((rd_T34 l0 x4_1).f2))).setCell ⟨gb157, 3, none⟩ (.string ((rd_T34 l0 x4_1).f3))).setCell ⟨gb157, 4, none⟩ (.slice A156_4 ((rd_T34 l0 x4_1).f4).length c156_4)).setCell ⟨gb157, 5, none⟩ (.slice A156_5 ((rd_T34 l0 x4_1).f5).length c156_5)).setCell ⟨gb157, 6, none⟩ (.slice A156_6 ((rd_T34 l0 x4_1).f6).length c156_6)).setCell ⟨gb157, 7, none⟩ (.string ((rd_T34 l0 x4_1).f7)))) ?hg ?ho ?hn ?hr ?_; (case ho => rfl); (case hg => rfl); (case hn => rfl); (case hr => first | (go_simp; done) | (go_simp; rfl)); intro w28 hw; have n0_ : Aside0 (Kd.R k34 34 w28 w.heap.size (fun k_ => k_ ≠ gb157) u3 x3_1) := ⟨(by rw [hw]; exact (by (with_reducible repeat (first|apply rA|apply rN|apply rD)); exact Kd.R_mono (Kd.R_far (p := ⟨gb157, 7, none⟩) (Kd.R_far (p := ⟨gb157, 6, none⟩) (Kd.R_far (p := ⟨gb157, 5, none⟩) (Kd.R_far (p := ⟨gb157, 4, none⟩) (Kd.R_far (p := ⟨gb157, 3, none⟩) (Kd.R_far (p := ⟨gb157, 2, none⟩) (Kd.R_far (p := ⟨gb157, 1, none⟩) (Kd.R_far (p := ⟨gb157, 0, none⟩) (Kd.R_mono HO_3.out (fun k_ hk => (⟨hk, hk.2⟩ : _ ∧ k_ ≠ gb157))) (fun _ hk => hk.2) (.int .i64 ((rd_T34 l0 x4_1).f0))) (fun _ hk => hk.2) (.string ((rd_T34 l0 x4_1).f1))) (fun _ hk => hk.2) (.string ((rd_T34 l0 x4_1).f2))) (fun _ hk => hk.2) (.string ((rd_T34 l0 x4_1).f3))) (fun _ hk => hk.2) (.slice A156_4 ((rd_T34 l0 x4_1).f4).length c156_4)) (fun _ hk => hk.2) (.slice A156_5 ((rd_T34 l0 x4_1).f5).length c156_5)) (fun _ hk => hk.2) (.slice A156_6 ((rd_T34 l0 x4_1).f6).length c156_6)) (fun _ hk => hk.2) (.string ((rd_T34 l0 x4_1).f7))) (fun _ hk => hk.1.2)))⟩; have n1_ : Aside0 (w28.heap[gb157]? = some (.cells #[.int .i64 ((rd_T34 l0 x4_1).f0), .string ((rd_T34 l0 x4_1).f1), .string ((rd_T34 l0 x4_1).f2), .string ((rd_T34 l0 x4_1).f3), .slice A156_4 ((rd_T34 l0 x4_1).f4).length c156_4, .slice A156_5 ((rd_T34 l0 x4_1).f5).length c156_5, .slice A156_6 ((rd_T34 l0 x4_1).f6).length c156_6, .string ((rd_T34 l0 x4_1).f7)] 34 (0, 0))) := ⟨(by rw [hw]; exact (by (with_reducible repeat (first | refine bN ?_ _|refine bD ?_|refine bA ?_ _)); exact put8 (by (with_reducible repeat (first | refine bN ?_ _|refine bD ?_|refine bA ?_ _)); exact BK157.out)))⟩; have n2_ : Aside0 (Below w.heap.size w w28) := ⟨(by rw [hw]; exact hB)⟩; clear hw; clear HO_3; clear BK157; clear HB; have HO_3 := n0_; have BK157 := n1_; have HB := n2_; clear n0_ n1_ n2_; obtain ⟨hcz29_0, hcz29_1, hcz29_2, hcz29_3, hcz29_4, hcz29_5, hcz29_6, hcz29_7⟩ := bc8 BK157.out; obtain ⟨hfz29_0, hfz29_1, hfz29_2, hfz29_3, hfz29_4, hfz29_5, hfz29_6, hfz29_7⟩ := bf8 BK157.out; obtain ⟨Ao30, co30, eo30⟩ := Kd.R_slice HO_3.out; subst eo30; have p158 : 0 ≤ ((ji11) : Int) := odt; have q158 : (ji11) < (x3_1.length : Int) := odt; obtain ⟨ad158, A158_4, c158_4, A158_5, c158_5, A158_6, c158_6, e158, hx158_0, hx158_1, hx158_2, hx158_3, hx158_4, hx158_5, hx158_6, hx158_7, hl158_4, hi158_4, hl158_5, hi158_5, hl158_6, hi158_6⟩ := at_T34 (Kd.R_reads' HO_3.out).2.2 (ji11) p158 q158; cases e158; obtain ⟨ce158, hce158, hMe158, hcc158⟩ := Kd.R_get HO_3.out z34 (ji11) p158 (by first | exact q158 | exact odt | (have e_ := (Kd.R_reads' HO_3.out).1; omega)); obtain ⟨ve158_4, ve158_5, ve158_6, rfl, ge158_4, ge158_5, ge158_6⟩ := k34_openM hMe158; have hv158_4 := hcc158 4 _ rfl; rw [add_field _ _ 4 (by omega)] at hv158_4; replace hv158_4 := Option.some.inj (hv158_4.symm.trans hx158_4); rw [hv158_4] at ge158_4; have HL158_4 := Aside0.mk (show Kd.R k88 88 _ _ _ _ ((rd_T34 x3_1 (ji11)).f4) from ge158_4); clear hv158_4 ge158_4; have hv158_5 := hcc158 5 _ rfl; rw [add_field _ _ 5 (by omega)] at hv158_5; replace hv158_5 := Option.some.inj (hv158_5.symm.trans hx158_5); rw [hv158_5] at ge158_5; have HL158_5 := Aside0.mk (show Kd.R k90 90 _ _ _ _ ((rd_T34 x3_1 (ji11)).f5) from ge158_5); clear hv158_5 ge158_5; have hv158_6 := hcc158 6 _ rfl; rw [add_field _ _ 6 (by omega)] at hv158_6; replace hv158_6 := Option.some.inj (hv158_6.symm.trans hx158_6); rw [hv158_6] at ge158_6; have HL158_6 := Aside0.mk (show Kd.R k34 34 _ _ _ _ ((rd_T34 x3_1 (ji11)).f6) from ge158_6); clear hv158_6 ge158_6; clear hcc158 hce158; have HR158_4 := Aside0.mk hi158_4; have HC158_4 := Aside0.mk hl158_4; clear hi158_4 hl158_4; have HR158_5 := Aside0.mk hi158_5; have HC158_5 := Aside0.mk hl158_5; clear hi158_5 hl158_5; have HR158_6 := Aside0.mk hi158_6; have HC158_6 := Aside0.mk hl158_6; clear hi158_6 hl158_6; replace p158 := eq_true p158; replace q158 := eq_true q158) | ((with_reducible refine gate_callee (f := 46) rfl ?_); refine goesL_ (some 54) rfl rfl Try.func46 (by kernel_rfl) rfl #[.agg #[.int .i64 ((rd_T34 l0 x4_1).f0), .string ((rd_T34 l0 x4_1).f1), .string ((rd_T34 l0 x4_1).f2), .string ((rd_T34 l0 x4_1).f3), .slice A156_4 ((rd_T34 l0 x4_1).f4).length c156_4, .slice A156_5 ((rd_T34 l0 x4_1).f5).length c156_5, .slice A156_6 ((rd_T34 l0 x4_1).f6).length c156_6, .string ((rd_T34 l0 x4_1).f7)]] rfl mA ?_; (with_reducible refine (spec_l5Copy.calls k1 ((rd_T34 l0 x4_1).f0) ((rd_T34 l0 x4_1).f1) ((rd_T34 l0 x4_1).f2) ((rd_T34 l0 x4_1).f3) _ _ ((rd_T34 l0 x4_1).f4) _ _ ((rd_T34 l0 x4_1).f5) _ _ ((rd_T34 l0 x4_1).f6) ((rd_T34 l0 x4_1).f7) t161 t162 t163 t164 t165 t168 t171 t174 _ ?side1 ?side2 ?side3 ?side4 ?side5 ?side6 A24.out).mono ?_); (case side1 => repeat (first | exact (Kd.C_below HR156_4.out HB.out) | (with_reducible refine Kd.C_alloc ?_ _) | (with_reducible refine Kd.C_drewN ?_ _) | (with_reducible refine Kd.C_drew ?_))); (case side2 => exact HC156_4.out); (case side3 => repeat (first | exact (Kd.C_below HR156_5.out HB.out) | (with_reducible refine Kd.C_alloc ?_ _) | (with_reducible refine Kd.C_drewN ?_ _) | (with_reducible refine Kd.C_drew ?_))); (case side4 => exact HC156_5.out); (case side5 => repeat (first | exact (Kd.C_below HR156_6.out HB.out) | (with_reducible refine Kd.C_alloc ?_ _) | (with_reducible refine Kd.C_drewN ?_ _) | (with_reducible refine Kd.C_drew ?_))); (case side6 => exact HC156_6.out); rintro e w31 ⟨v166, v169, v172, rfl, ho0, ho1, ho2, hb⟩; refine ⟨_, rfl, ?_⟩; have HO167 := Aside0.mk (Kd.R_lower (Kd.R_new' ho0 (Kd.R_lt (by (with_reducible repeat (first|apply rA|apply rN|apply rD)); exact HL158_4.out))) (below_size hB)); have HO170 := Aside0.mk (Kd.R_lower (Kd.R_new' ho1 (Kd.R_lt (by (with_reducible repeat (first|apply rA|apply rN|apply rD)); exact HL158_5.out))) (below_size hB)); have HO173 := Aside0.mk (Kd.R_lower (Kd.R_newB (Kd.R_new' (Kd.R_new' (Kd.R_new' (Kd.R_new' ho2 (Kd.R_lt (by (with_reducible repeat (first|apply rA|apply rN|apply rD)); exact HO_3.out))) (Kd.R_lt (by (with_reducible repeat (first|apply rA|apply rN|apply rD)); exact HL158_4.out))) (Kd.R_lt (by (with_reducible repeat (first|apply rA|apply rN|apply rD)); exact HL158_5.out))) (Kd.R_lt (by (with_reducible repeat (first|apply rA|apply rN|apply rD)); exact HL158_6.out))) (g := gb157) (by (with_reducible repeat (first | refine bN ?_ _|refine bD ?_|refine bA ?_ _)); exact BK157.out)) (below_size hB)); replace HO_3 := Aside0.mk (Kd.R_mono (Kd.R_told (Kd.R_told (Kd.R_told (Kd.R_old (by (with_reducible repeat (first|apply rA|apply rN|apply rD)); exact HO_3.out) hb) (Kd.R_base ho0)) (Kd.R_base ho1)) (Kd.R_base ho2)) (fun _ h_ => h_.1)); replace HL158_4 := Aside0.mk (Kd.R_elder' (by (with_reducible repeat (first|apply rA|apply rN|apply rD)); exact HL158_4.out) (Kd.R_base ho0) hb); replace HL158_5 := Aside0.mk (Kd.R_elder' (by (with_reducible repeat (first|apply rA|apply rN|apply rD)); exact HL158_5.out) (Kd.R_base ho1) hb); replace HL158_6 := Aside0.mk (Kd.R_mono (Kd.R_told (Kd.R_told (Kd.R_told (Kd.R_old (by (with_reducible repeat (first|apply rA|apply rN|apply rD)); exact HL158_6.out) hb) (Kd.R_base ho0)) (Kd.R_base ho1)) (Kd.R_base ho2)) (fun _ h_ => h_.1)); replace BK157 := Aside0.mk (blk_below (g := gb157) (by (with_reducible repeat (first | refine bN ?_ _|refine bD ?_|refine bA ?_ _)); exact BK157.out) hb); replace HR158_4 := Aside0.mk (Kd.C_below (by repeat (first | (with_reducible exact HR158_4.out) | (with_reducible refine Kd.C_alloc ?_ _) | (with_reducible refine Kd.C_drewN ?_ _) | (with_reducible refine Kd.C_drew ?_) | exact HR158_4.out)) hb); replace HR158_5 := Aside0.mk (Kd.C_below (by repeat (first | (with_reducible exact HR158_5.out) | (with_reducible refine Kd.C_alloc ?_ _) | (with_reducible refine Kd.C_drewN ?_ _) | (with_reducible refine Kd.C_drew ?_) | exact HR158_5.out)) hb); replace HR158_6 := Aside0.mk (Kd.C_below (by repeat (first | (with_reducible exact HR158_6.out) | (with_reducible refine Kd.C_alloc ?_ _) | (with_reducible refine Kd.C_drewN ?_ _) | (with_reducible refine Kd.C_drew ?_) | exact HR158_6.out)) hb); replace HB := Aside0.mk (below_step hB hb); (try clear hb); (try clear hb2); (try clear hk); (try clear hi); (try clear ho0); (try clear ho1); (try clear ho2)) | ((with_reducible refine gate_dst (N := 6) rfl ?_); (try (refine gate_guard (by rfl) ?_; dsimp only)); refine box_event ?hg (N := 6) ?hd (cs := #[.int .i64 0, .string (⟨#[]⟩ : ByteArray), .string (⟨#[]⟩ : ByteArray), .string (⟨#[]⟩ : ByteArray), .slice none 0 0, .slice none 0 0, .slice none 0 0, .string (⟨#[]⟩ : ByteArray)]) (t := 34) ?hr ?_; (case hd => rfl); (case hg => rfl); (case hr => first | (go_simp; done) | (go_simp; rfl)); intro gb175 hg w32 hbox hb; replace HO_3 := Aside0.mk (Kd.R_below (Kd.R_elderB (by (with_reducible repeat (first|apply rA|apply rN|apply rD)); exact HO_3.out) gb175 (Nat.le_of_eq hg.symm)) hb); replace HL158_4 := Aside0.mk (Kd.R_below (by (with_reducible repeat (first|apply rA|apply rN|apply rD)); exact HL158_4.out) hb); replace HL158_5 := Aside0.mk (Kd.R_below (by (with_reducible repeat (first|apply rA|apply rN|apply rD)); exact HL158_5.out) hb); replace HL158_6 := Aside0.mk (Kd.R_below (Kd.R_elderB (by (with_reducible repeat (first|apply rA|apply rN|apply rD)); exact HL158_6.out) gb175 (Nat.le_of_eq hg.symm)) hb); replace HO167 := Aside0.mk (Kd.R_below (by (with_reducible repeat (first|apply rA|apply rN|apply rD)); exact HO167.out) hb); replace HO170 := Aside0.mk (Kd.R_below (by (with_reducible repeat (first|apply rA|apply rN|apply rD)); exact HO170.out) hb); replace HO173 := Aside0.mk (Kd.R_below (Kd.R_elderB (by (with_reducible repeat (first|apply rA|apply rN|apply rD)); exact HO173.out) gb175 (Nat.le_of_eq hg.symm)) hb); replace HR158_4 := Aside0.mk (Kd.C_below (by repeat (first | (with_reducible exact HR158_4.out) | (with_reducible refine Kd.C_alloc ?_ _) | (with_reducible refine Kd.C_drewN ?_ _) | (with_reducible refine Kd.C_drew ?_) | exact HR158_4.out)) hb); replace HR158_5 := Aside0.mk (Kd.C_below (by repeat (first | (with_reducible exact HR158_5.out) | (with_reducible refine Kd.C_alloc ?_ _) | (with_reducible refine Kd.C_drewN ?_ _) | (with_reducible refine Kd.C_drew ?_) | exact HR158_5.out)) hb); replace HR158_6 := Aside0.mk (Kd.C_below (by repeat (first | (with_reducible exact HR158_6.out) | (with_reducible refine Kd.C_alloc ?_ _) | (with_reducible refine Kd.C_drewN ?_ _) | (with_reducible refine Kd.C_drew ?_) | exact HR158_6.out)) hb); have BK175 := Aside0.mk (hbox); have GW175 := Aside0.mk ((by rw [hg]; exact (below_size hB) : w.heap.size ≤ gb175)); have GE175 := Aside0.mk ((by rw [hg]; exact (below_size hB) : w.heap.size ≤ gb175)); replace HB := Aside0.mk (below_step hB hb); have NB157_175 := Aside0.mk ((by rw [hg]; exact Nat.ne_of_lt (blk_lt (g := gb157) (by (with_reducible repeat (first | refine bN ?_ _|refine bD ?_|refine bA ?_ _)); exact BK157.out)) : gb157 ≠ gb175)); have NB175_157 := Aside0.mk ((by rw [hg]; exact Nat.ne_of_gt (blk_lt (g := gb157) (by (with_reducible repeat (first | refine bN ?_ _|refine bD ?_|refine bA ?_ _)); exact BK157.out)) : gb175 ≠ gb157)); replace BK157 := Aside0.mk (blk_below (g := gb157) (by (with_reducible repeat (first | refine bN ?_ _|refine bD ?_|refine bA ?_ _)); exact BK157.out) hb); clear hb hbox hg; have hnb33 := NB175_157.out; have hnc33 := NB157_175.out; obtain ⟨hcz34_0, hcz34_1, hcz34_2, hcz34_3, hcz34_4, hcz34_5, hcz34_6, hcz34_7⟩ := bc8 BK175.out; obtain ⟨hfz34_0, hfz34_1, hfz34_2, hfz34_3, hfz34_4, hfz34_5, hfz34_6, hfz34_7⟩ := bf8 BK175.out; obtain ⟨Ao35, co35, eo35⟩ := Kd.R_slice HO167.out; subst eo35; obtain ⟨Ao36, co36, eo36⟩ := Kd.R_slice HO170.out; subst eo36; obtain ⟨Ao37, co37, eo37⟩ := Kd.R_slice HO173.out; subst eo37) | ((with_reducible refine gate_store (t := 34) (p := 6) rfl ?_); refine store_event (t := 34) (p := 6) (v := ?vo_w38) (w1 := ((((((((w32.setCell ⟨gb175, 0, none⟩ (.int .i64 t161)).setCell ⟨gb175, 1, none⟩ (.string t162)).setCell ⟨gb175, 2, none⟩ (.string t163)).setCell ⟨gb175, 3, none⟩ (.string t164)).setCell ⟨gb175, 4, none⟩ (.slice Ao35 t165.length co35)).setCell ⟨gb175, 5, none⟩ (.slice Ao36 t168.length co36)).setCell ⟨gb175, 6, none⟩ (.slice Ao37 t171.length co37)).setCell ⟨gb175, 7, none⟩ (.string t174))) ?hg ?ho ?hn ?hr ?_; (case ho => rfl); (case hg => rfl); (case hn => rfl); (case hr => first | (go_simp; done) | (go_simp; rfl)); intro w38 hw; have n0_ : Aside0 (Kd.R k34 34 w38 w.heap.size (fun k_ => some k_ ≠ (.slice Ao35 t165.length co35 : Value).ownBlock ∧ some k_ ≠ (.slice Ao36 t168.length co36 : Value).ownBlock ∧ some k_ ≠ (.slice Ao37 t171.length co37 : Value).ownBlock ∧ k_ ≠ gb157 ∧ k_ ≠ gb175) (.slice (some ad158) x3_1.length co30) x3_1) := ⟨(by rw [hw]; exact (by (with_reducible repeat (first|apply rA|apply rN|apply rD)); exact Kd.R_mono (Kd.R_far (p := ⟨gb175, 7, none⟩) (Kd.R_far (p := ⟨gb175, 6, none⟩) (Kd.R_far (p := ⟨gb175, 5, none⟩) (Kd.R_far (p := ⟨gb175, 4, none⟩) (Kd.R_far (p := ⟨gb175, 3, none⟩) (Kd.R_far (p := ⟨gb175, 2, none⟩) (Kd.R_far (p := ⟨gb175, 1, none⟩) (Kd.R_far (p := ⟨gb175, 0, none⟩) (Kd.R_mono HO_3.out (fun k_ hk => (⟨hk, hk.2⟩ : _ ∧ k_ ≠ gb175))) (fun _ hk => hk.2) (.int .i64 t161)) (fun _ hk => hk.2) (.string t162)) (fun _ hk => hk.2) (.string t163)) (fun _ hk => hk.2) (.string t164)) (fun _ hk => hk.2) (.slice Ao35 t165.length co35)) (fun _ hk => hk.2) (.slice Ao36 t168.length co36)) (fun _ hk => hk.2) (.slice Ao37 t171.length co37)) (fun _ hk => hk.2) (.string t174)) (fun _ hk => ⟨hk.1.1.1.1.2, ⟨hk.1.1.1.2, ⟨hk.1.1.2, ⟨hk.1.1.1.1.1, hk.1.2⟩⟩⟩⟩)))⟩; have n1_ : Aside0 (Kd.R k88 88 w38 w.heap.size (fun k_ => some k_ ≠ (.slice (some ad158) x3_1.length co30 : Value).ownBlock ∧ some k_ ≠ (.slice Ao35 t165.length co35 : Value).ownBlock ∧ k_ ≠ gb157) (.slice A158_4 ((rd_T34 x3_1 (ji11)).f4).length c158_4) ((rd_T34 x3_1 (ji11)).f4)) := ⟨(by rw [hw]; exact (by (with_reducible repeat (first|apply rA|apply rN|apply rD)); exact Kd.R_mono (Kd.R_far (p := ⟨gb175, 7, none⟩) (Kd.R_far (p := ⟨gb175, 6, none⟩) (Kd.R_far (p := ⟨gb175, 5, none⟩) (Kd.R_far (p := ⟨gb175, 4, none⟩) (Kd.R_far (p := ⟨gb175, 3, none⟩) (Kd.R_far (p := ⟨gb175, 2, none⟩) (Kd.R_far (p := ⟨gb175, 1, none⟩) (Kd.R_far (p := ⟨gb175, 0, none⟩) (Kd.R_types HL158_4.out BK175.out (by decide)) (fun _ hk => hk.2) (.int .i64 t161)) (fun _ hk => hk.2) (.string t162)) (fun _ hk => hk.2) (.string t163)) (fun _ hk => hk.2) (.string t164)) (fun _ hk => hk.2) (.slice Ao35 t165.length co35)) (fun _ hk => hk.2) (.slice Ao36 t168.length co36)) (fun _ hk => hk.2) (.slice Ao37 t171.length co37)) (fun _ hk => hk.2) (.string t174)) (fun _ hk => ⟨hk.1.1.2, ⟨hk.1.2, hk.1.1.1⟩⟩)))⟩; have n2_ : Aside0 (Kd.R k90 90 w38 w.heap.size (fun k_ => some k_ ≠ (.slice (some ad158) x3_1.length co30 : Value).ownBlock ∧ some k_ ≠ (.slice Ao36 t168.length co36 : Value).ownBlock ∧ k_ ≠ gb157) (.slice A158_5 ((rd_T34 x3_1 (ji11)).f5).length c158_5) ((rd_T34 x3_1 (ji11)).f5)) := ⟨(by rw [hw]; exact (by (with_reducible repeat (first|apply rA|apply rN|apply rD)); exact Kd.R_mono (Kd.R_far (p := ⟨gb175, 7, none⟩) (Kd.R_far (p := ⟨gb175, 6, none⟩) (Kd.R_far (p := ⟨gb175, 5, none⟩) (Kd.R_far (p := ⟨gb175, 4, none⟩) (Kd.R_far (p := ⟨gb175, 3, none⟩) (Kd.R_far (p := ⟨gb175, 2, none⟩) (Kd.R_far (p := ⟨gb175, 1, none⟩) (Kd.R_far (p := ⟨gb175, 0, none⟩) (Kd.R_types HL158_5.out BK175.out (by decide)) (fun _ hk => hk.2) (.int .i64 t161)) (fun _ hk => hk.2) (.string t162)) (fun _ hk => hk.2) (.string t163)) (fun _ hk => hk.2) (.string t164)) (fun _ hk => hk.2) (.slice Ao35 t165.length co35)) (fun _ hk => hk.2) (.slice Ao36 t168.length co36)) (fun _ hk => hk.2) (.slice Ao37 t171.length co37)) (fun _ hk => hk.2) (.string t174)) (fun _ hk => ⟨hk.1.1.2, ⟨hk.1.2, hk.1.1.1⟩⟩)))⟩; have n3_ : Aside0 (Kd.R k34 34 w38 w.heap.size (fun k_ => some k_ ≠ (.slice (some ad158) x3_1.length co30 : Value).ownBlock ∧ some k_ ≠ (.slice Ao35 t165.length co35 : Value).ownBlock ∧ some k_ ≠ (.slice Ao36 t168.length co36 : Value).ownBlock ∧ some k_ ≠ (.slice Ao37 t171.length co37 : Value).ownBlock ∧ k_ ≠ gb157 ∧ k_ ≠ gb175) (.slice A158_6 ((rd_T34 x3_1 (ji11)).f6).length c158_6) ((rd_T34 x3_1 (ji11)).f6)) := ⟨(by rw [hw]; exact (by (with_reducible repeat (first|apply rA|apply rN|apply rD)); exact Kd.R_mono (Kd.R_far (p := ⟨gb175, 7, none⟩) (Kd.R_far (p := ⟨gb175, 6, none⟩) (Kd.R_far (p := ⟨gb175, 5, none⟩) (Kd.R_far (p := ⟨gb175, 4, none⟩) (Kd.R_far (p := ⟨gb175, 3, none⟩) (Kd.R_far (p := ⟨gb175, 2, none⟩) (Kd.R_far (p := ⟨gb175, 1, none⟩) (Kd.R_far (p := ⟨gb175, 0, none⟩) (Kd.R_mono HL158_6.out (fun k_ hk => (⟨hk, hk.2⟩ : _ ∧ k_ ≠ gb175))) (fun _ hk => hk.2) (.int .i64 t161)) (fun _ hk => hk.2) (.string t162)) (fun _ hk => hk.2) (.string t163)) (fun _ hk => hk.2) (.string t164)) (fun _ hk => hk.2) (.slice Ao35 t165.length co35)) (fun _ hk => hk.2) (.slice Ao36 t168.length co36)) (fun _ hk => hk.2) (.slice Ao37 t171.length co37)) (fun _ hk => hk.2) (.string t174)) (fun _ hk => ⟨hk.1.1.1.1.1.2, ⟨hk.1.1.1.1.2, ⟨hk.1.1.1.2, ⟨hk.1.1.2, ⟨hk.1.1.1.1.1.1, hk.1.2⟩⟩⟩⟩⟩)))⟩; have n4_ : Aside0 (Kd.R k88 88 w38 w.heap.size (fun k_ => some k_ ≠ (.slice A158_4 ((rd_T34 x3_1 (ji11)).f4).length c158_4 : Value).ownBlock) (.slice Ao35 t165.length co35) t165) := ⟨(by rw [hw]; exact (by (with_reducible repeat (first|apply rA|apply rN|apply rD)); exact Kd.R_mono (Kd.R_far (p := ⟨gb175, 7, none⟩) (Kd.R_far (p := ⟨gb175, 6, none⟩) (Kd.R_far (p := ⟨gb175, 5, none⟩) (Kd.R_far (p := ⟨gb175, 4, none⟩) (Kd.R_far (p := ⟨gb175, 3, none⟩) (Kd.R_far (p := ⟨gb175, 2, none⟩) (Kd.R_far (p := ⟨gb175, 1, none⟩) (Kd.R_far (p := ⟨gb175, 0, none⟩) (Kd.R_types HO167.out BK175.out (by decide)) (fun _ hk => hk.2) (.int .i64 t161)) (fun _ hk => hk.2) (.string t162)) (fun _ hk => hk.2) (.string t163)) (fun _ hk => hk.2) (.string t164)) (fun _ hk => hk.2) (.slice Ao35 t165.length co35)) (fun _ hk => hk.2) (.slice Ao36 t168.length co36)) (fun _ hk => hk.2) (.slice Ao37 t171.length co37)) (fun _ hk => hk.2) (.string t174)) (fun _ hk => hk.1.2)))⟩; have n5_ : Aside0 (Kd.R k90 90 w38 w.heap.size (fun k_ => some k_ ≠ (.slice A158_5 ((rd_T34 x3_1 (ji11)).f5).length c158_5 : Value).ownBlock) (.slice Ao36 t168.length co36) t168) := ⟨(by rw [hw]; exact (by (with_reducible repeat (first|apply rA|apply rN|apply rD)); exact Kd.R_mono (Kd.R_far (p := ⟨gb175, 7, none⟩) (Kd.R_far (p := ⟨gb175, 6, none⟩) (Kd.R_far (p := ⟨gb175, 5, none⟩) (Kd.R_far (p := ⟨gb175, 4, none⟩) (Kd.R_far (p := ⟨gb175, 3, none⟩) (Kd.R_far (p := ⟨gb175, 2, none⟩) (Kd.R_far (p := ⟨gb175, 1, none⟩) (Kd.R_far (p := ⟨gb175, 0, none⟩) (Kd.R_types HO170.out BK175.out (by decide)) (fun _ hk => hk.2) (.int .i64 t161)) (fun _ hk => hk.2) (.string t162)) (fun _ hk => hk.2) (.string t163)) (fun _ hk => hk.2) (.string t164)) (fun _ hk => hk.2) (.slice Ao35 t165.length co35)) (fun _ hk => hk.2) (.slice Ao36 t168.length co36)) (fun _ hk => hk.2) (.slice Ao37 t171.length co37)) (fun _ hk => hk.2) (.string t174)) (fun _ hk => hk.1.2)))⟩; have n6_ : Aside0 (Kd.R k34 34 w38 w.heap.size (fun k_ => some k_ ≠ (.slice (some ad158) x3_1.length co30 : Value).ownBlock ∧ some k_ ≠ (.slice A158_4 ((rd_T34 x3_1 (ji11)).f4).length c158_4 : Value).ownBlock ∧ some k_ ≠ (.slice A158_5 ((rd_T34 x3_1 (ji11)).f5).length c158_5 : Value).ownBlock ∧ some k_ ≠ (.slice A158_6 ((rd_T34 x3_1 (ji11)).f6).length c158_6 : Value).ownBlock ∧ some k_ ≠ (.slice Ao35 t165.length co35 : Value).ownBlock ∧ some k_ ≠ (.slice Ao36 t168.length co36 : Value).ownBlock ∧ k_ ≠ gb157 ∧ k_ ≠ gb175) (.slice Ao37 t171.length co37) t171) := ⟨(by rw [hw]; exact (by (with_reducible repeat (first|apply rA|apply rN|apply rD)); exact Kd.R_mono (Kd.R_far (p := ⟨gb175, 7, none⟩) (Kd.R_far (p := ⟨gb175, 6, none⟩) (Kd.R_far (p := ⟨gb175, 5, none⟩) (Kd.R_far (p := ⟨gb175, 4, none⟩) (Kd.R_far (p := ⟨gb175, 3, none⟩) (Kd.R_far (p := ⟨gb175, 2, none⟩) (Kd.R_far (p := ⟨gb175, 1, none⟩) (Kd.R_far (p := ⟨gb175, 0, none⟩) (Kd.R_mono HO173.out (fun k_ hk => (⟨hk, hk.2⟩ : _ ∧ k_ ≠ gb175))) (fun _ hk => hk.2) (.int .i64 t161)) (fun _ hk => hk.2) (.string t162)) (fun _ hk => hk.2) (.string t163)) (fun _ hk => hk.2) (.string t164)) (fun _ hk => hk.2) (.slice Ao35 t165.length co35)) (fun _ hk => hk.2) (.slice Ao36 t168.length co36)) (fun _ hk => hk.2) (.slice Ao37 t171.length co37)) (fun _ hk => hk.2) (.string t174)) (fun _ hk => ⟨hk.1.1.1.1.1.1.2, ⟨hk.1.1.1.1.1.2, ⟨hk.1.1.1.1.2, ⟨hk.1.1.1.2, ⟨hk.1.1.1.1.1.1.1.1, ⟨hk.1.1.1.1.1.1.1.2, ⟨hk.1.1.2, hk.1.2⟩⟩⟩⟩⟩⟩⟩)))⟩; have n7_ : Aside0 (w38.heap[gb157]? = some (.cells #[.int .i64 ((rd_T34 l0 x4_1).f0), .string ((rd_T34 l0 x4_1).f1), .string ((rd_T34 l0 x4_1).f2), .string ((rd_T34 l0 x4_1).f3), .slice A156_4 ((rd_T34 l0 x4_1).f4).length c156_4, .slice A156_5 ((rd_T34 l0 x4_1).f5).length c156_5, .slice A156_6 ((rd_T34 l0 x4_1).f6).length c156_6, .string ((rd_T34 l0 x4_1).f7)] 34 (0, 0))) := ⟨(by rw [hw]; exact (by (with_reducible repeat (first | refine bN ?_ _|refine bD ?_|refine bA ?_ _)); exact pfa8 (hn := NB157_175.out) (by (with_reducible repeat (first | refine bN ?_ _|refine bD ?_|refine bA ?_ _)); exact BK157.out)))⟩; have n8_ : Aside0 (w38.heap[gb175]? = some (.cells #[.int .i64 t161, .string t162, .string t163, .string t164, .slice Ao35 t165.length co35, .slice Ao36 t168.length co36, .slice Ao37 t171.length co37, .string t174] 34 (0, 0))) := ⟨(by rw [hw]; exact (by (with_reducible repeat (first | refine bN ?_ _|refine bD ?_|refine bA ?_ _)); exact put8 (by (with_reducible repeat (first | refine bN ?_ _|refine bD ?_|refine bA ?_ _)); exact BK175.out)))⟩; have n9_ : Aside0 (Below w.heap.size w w38) := ⟨(by rw [hw]; exact hB)⟩; clear hw; clear HO_3; clear HL158_4; clear HL158_5; clear HL158_6; clear HO167; clear HO170; clear HO173; clear BK157; clear BK175; clear HB; have HO_3 := n0_; have HL158_4 := n1_; have HL158_5 := n2_; have HL158_6 := n3_; have HO167 := n4_; have HO170 := n5_; have HO173 := n6_; have BK157 := n7_; have BK175 := n8_; have HB := n9_; clear n0_ n1_ n2_ n3_ n4_ n5_ n6_ n7_ n8_ n9_; obtain ⟨hcz39_0, hcz39_1, hcz39_2, hcz39_3, hcz39_4, hcz39_5, hcz39_6, hcz39_7⟩ := bc8 BK175.out; obtain ⟨hfz39_0, hfz39_1, hfz39_2, hfz39_3, hfz39_4, hfz39_5, hfz39_6, hfz39_7⟩ := bf8 BK175.out) | ((with_reducible refine gate_builtin (b := .append) (xs := #[.tmp 55, .tmp 57]) rfl ?_); (try (refine gate_guard (by rfl) ?_; dsimp only)); at_builtin; refine Kd.R_append k34 (w0 := w) w.heap.size rfl (.tmp 55) (.tmp 57) 32 34 (.agg #[(.int .i64 0), (.string ⟨#[]⟩), (.string ⟨#[]⟩), (.string ⟨#[]⟩), (.slice none 0 0), (.slice none 0 0), (.slice none 0 0), (.string ⟨#[]⟩)]) 144 rfl Try.underlying32 info34 rfl (by decide) (by omega) (.slice (some ad158) x3_1.length co30) x3_1 (⟨t161, t162, t163, t164, t165, t168, t171, t174⟩ : S34) [.int .i64 t161, .string t162, .string t163, .string t164, .slice Ao35 t165.length co35, .slice Ao36 t168.length co36, .slice Ao37 t171.length co37, .string t174] (fun k_ => k_ ≠ gb157 ∧ k_ ≠ gb175) (fun k_ => ((fun k_ => k_ ≠ gb157 ∧ k_ ≠ gb175)) k_ ∧ some k_ ≠ (.slice (some ad158) x3_1.length co30 : Value).ownBlock) rfl rfl ?aP (fun _ hk => hk) ?aF ?aO ?aB ?aS ?aL ?_; (case aP => exact k34_mkM _ _ _ (⟨t161, t162, t163, t164, t165, t168, t171, t174⟩ : S34) (Kd.R_mono (Kd.R_types (Kd.R_types (Kd.R_apart' (HO167.out) (Kd.R_typed HO_3.out) (by decide)) BK157.out (by decide)) BK175.out (by decide)) (fun k_ hk => ⟨⟨hk.1.2, hk.2⟩, hk.1.1.2⟩)) (Kd.R_mono (Kd.R_types (Kd.R_types (Kd.R_apart' (HO170.out) (Kd.R_typed HO_3.out) (by decide)) BK157.out (by decide)) BK175.out (by decide)) (fun k_ hk => ⟨⟨hk.1.2, hk.2⟩, hk.1.1.2⟩)) (Kd.R_mono (HO173.out) (fun k_ hk => ⟨⟨hk.2.2.2.2.2.2.1, hk.2.2.2.2.2.2.2⟩, hk.1⟩))); (case aB => exact hB); (case aF => exact (fun k_ hk => ⟨Kd.freshB (g := gb157) (by (with_reducible repeat (first | refine bN ?_ _|refine bD ?_|refine bA ?_ _)); exact BK157.out) k_ hk, Kd.freshB (g := gb175) (by (with_reducible repeat (first | refine bN ?_ _|refine bD ?_|refine bA ?_ _)); exact BK175.out) k_ hk⟩)); (case aO => exact (by (with_reducible repeat (first|apply rA|apply rN|apply rD)); exact Kd.R_mono HO_3.out (fun _ hk => ⟨hk.2.2.2.1, hk.2.2.2.2⟩))); (case aS => exact (below_size hB)); (case aL => have := LMc25.out; omega); intro v177 w40 ho hb hg hat; rw [← Ny176.out] at ho; replace BK157 := Aside0.mk (blk_grown (g := gb157) (by (with_reducible repeat (first | refine bN ?_ _|refine bD ?_|refine bA ?_ _)); exact BK157.out) hg (Kd.R_away HO_3.out (fun _ hk => hk.2.2.2.1))); replace HL158_4 := Aside0.mk (Kd.R_after (ok := (fun k_ => some k_ ≠ (.slice Ao35 t165.length co35 : Value).ownBlock ∧ k_ ≠ gb157)) (by (with_reducible repeat (first|apply rA|apply rN|apply rD)); exact Kd.R_mono HL158_4.out (fun _ hk => ⟨⟨hk.2.1, hk.2.2⟩, hk.1⟩)) hg hat); replace HL158_5 := Aside0.mk (Kd.R_after (ok := (fun k_ => some k_ ≠ (.slice Ao36 t168.length co36 : Value).ownBlock ∧ k_ ≠ gb157)) (by (with_reducible repeat (first|apply rA|apply rN|apply rD)); exact Kd.R_mono HL158_5.out (fun _ hk => ⟨⟨hk.2.1, hk.2.2⟩, hk.1⟩)) hg hat); replace HL158_6 := Aside0.mk (Kd.R_after (ok := (fun k_ => some k_ ≠ (.slice Ao35 t165.length co35 : Value).ownBlock ∧ some k_ ≠ (.slice Ao36 t168.length co36 : Value).ownBlock ∧ some k_ ≠ (.slice Ao37 t171.length co37 : Value).ownBlock ∧ k_ ≠ gb157 ∧ k_ ≠ gb175)) (by (with_reducible repeat (first|apply rA|apply rN|apply rD)); exact Kd.R_mono HL158_6.out (fun _ hk => ⟨⟨hk.2.1, ⟨hk.2.2.1, ⟨hk.2.2.2.1, ⟨hk.2.2.2.2.1, hk.2.2.2.2.2⟩⟩⟩⟩, hk.1⟩)) hg hat); replace BK175 := Aside0.mk (blk_grown (g := gb175) (by (with_reducible repeat (first | refine bN ?_ _|refine bD ?_|refine bA ?_ _)); exact BK175.out) hg (Kd.R_away HO_3.out (fun _ hk => hk.2.2.2.2))); replace HB := Aside0.mk (hb); have HO178 := Aside0.mk (ho); clear HO_3; clear HO167; clear HO170; clear HO173; clear ho hb hg hat))
        go_roundg k1
        case measure => have := HK1.out; omega
        case rel => exact ⟨(y176), (wrap64 (x4_1 + 1)), rG, H', ⟨by have := HK1.out; omega⟩, ⟨by (with_reducible repeat (first|apply rA|apply rN|apply rD)); exact Kd.R_mono HO178.out (fun _ hk => trivial)⟩, ⟨hB⟩⟩
      ·rw [if_neg c10] at H
       have c10b0 : decide (0 < (x3_1.length : Int)) = false := decide_eq_false c10
       have c10b1 : decide (0 < x3_1.length) = false := decide_eq_false (by omega)
       clear c10
       replace H := Option.bind_eq_some_iff.mp H
       obtain ⟨⟨t179, t180, t181, t182, t183, t186, t189, t192⟩, A410, H⟩ := H
       try dsimp only at H
       have A41 := Aside0.mk A410
       clear A410
       obtain ⟨c42, H⟩ := if_som H
       have LMc42 := Aside0.mk c42
       clear c42
       obtain ⟨y194, hy194⟩ : ∃ y_ : List (S34), y_ = (x3_1 ++ [(⟨t179, t180, t181, t182, t183, t186, t189, t192⟩ : S34)]) := ⟨_, rfl⟩
       replace H : (spec_Merge.l0 k1 l0 y194 (wrap64 (x4_1 + 1))) = some r := by first | (rw [hy194]; with_reducible exact H) | (have H2_ := (Option.bind_some _ _).symm.trans H; rw [hy194]; with_reducible exact H2_) | (have H2_ := (Option.bind_some _ _).symm.trans H; with_reducible exact H2_) | with_reducible exact H | (rw [hy194]; exact H) | exact H
       have Ny194 := Aside0.mk hy194
       clear hy194
       have H' := Aside0.mk H
       clear H
       have p156 : 0 ≤ (x4_1 : Int) := odt
       have q156 : x4_1 < (l0.length : Int) := odt
       obtain ⟨ad156, A156_4, c156_4, A156_5, c156_5, A156_6, c156_6, e156, hx156_0, hx156_1, hx156_2, hx156_3, hx156_4, hx156_5, hx156_6, hx156_7, hl156_4, hi156_4, hl156_5, hi156_5, hl156_6, hi156_6⟩ := at_T34 HR0.out x4_1 p156 q156
       cases e156
       replace hx156_0 := pw_cell_below HB.out hx156_0
       replace hx156_1 := pw_cell_below HB.out hx156_1
       replace hx156_2 := pw_cell_below HB.out hx156_2
       replace hx156_3 := pw_cell_below HB.out hx156_3
       replace hx156_4 := pw_cell_below HB.out hx156_4
       replace hx156_5 := pw_cell_below HB.out hx156_5
       replace hx156_6 := pw_cell_below HB.out hx156_6
       replace hx156_7 := pw_cell_below HB.out hx156_7
       have HR156_4 := Aside0.mk hi156_4
       have HC156_4 := Aside0.mk hl156_4
       clear hi156_4 hl156_4
       have HR156_5 := Aside0.mk hi156_5
       have HC156_5 := Aside0.mk hl156_5
       clear hi156_5 hl156_5
       have HR156_6 := Aside0.mk hi156_6
       have HC156_6 := Aside0.mk hl156_6
       clear hi156_6 hl156_6
       replace p156 := eq_true p156
       replace q156 := eq_true q156
       go_wp2_with (first | ((with_reducible refine gate_dst (N := 5) rfl ?_); (try (refine gate_guard (by rfl) ?_; dsimp only)); refine box_event ?hg (N := 5) ?hd (cs := #[.int .i64 0, .string (⟨#[]⟩ : ByteArray), .string (⟨#[]⟩ : ByteArray), .string (⟨#[]⟩ : ByteArray), .slice none 0 0, .slice none 0 0, .slice none 0 0, .string (⟨#[]⟩ : ByteArray)]) (t := 34) ?hr ?_; (case hd => rfl); (case hg => rfl); (case hr => first | (go_simp; done) | (go_simp; rfl)); intro gb157 hg w43 hbox hb; replace HO_3 := Aside0.mk (Kd.R_below (Kd.R_elderB (by (with_reducible repeat (first|apply rA|apply rN|apply rD)); exact HO_3.out) gb157 (Nat.le_of_eq hg.symm)) hb); have BK157 := Aside0.mk (hbox); have GW157 := Aside0.mk ((by rw [hg]; exact (below_size hB) : w.heap.size ≤ gb157)); have GE157 := Aside0.mk ((by rw [hg]; exact (below_size hB) : w.heap.size ≤ gb157)); replace HB := Aside0.mk (below_step hB hb); clear hb hbox hg; obtain ⟨hcz44_0, hcz44_1, hcz44_2, hcz44_3, hcz44_4, hcz44_5, hcz44_6, hcz44_7⟩ := bc8 BK157.out; obtain ⟨hfz44_0, hfz44_1, hfz44_2, hfz44_3, hfz44_4, hfz44_5, hfz44_6, hfz44_7⟩ := bf8 BK157.out; obtain ⟨Ao45, co45, eo45⟩ := Kd.R_slice HO_3.out; subst eo45) | ((with_reducible refine gate_callee (f := 46) rfl ?_); refine goesL_ (some 54) rfl rfl Try.func46 (by kernel_rfl) rfl #[.agg #[.int .i64 ((rd_T34 l0 x4_1).f0), .string ((rd_T34 l0 x4_1).f1), .string ((rd_T34 l0 x4_1).f2), .string ((rd_T34 l0 x4_1).f3), .slice A156_4 ((rd_T34 l0 x4_1).f4).length c156_4, .slice A156_5 ((rd_T34 l0 x4_1).f5).length c156_5, .slice A156_6 ((rd_T34 l0 x4_1).f6).length c156_6, .string ((rd_T34 l0 x4_1).f7)]] rfl mA ?_; (with_reducible refine (spec_l5Copy.calls k1 ((rd_T34 l0 x4_1).f0) ((rd_T34 l0 x4_1).f1) ((rd_T34 l0 x4_1).f2) ((rd_T34 l0 x4_1).f3) _ _ ((rd_T34 l0 x4_1).f4) _ _ ((rd_T34 l0 x4_1).f5) _ _ ((rd_T34 l0 x4_1).f6) ((rd_T34 l0 x4_1).f7) t179 t180 t181 t182 t183 t186 t189 t192 _ ?side1 ?side2 ?side3 ?side4 ?side5 ?side6 A41.out).mono ?_); (case side1 => exact Kd.C_below HR156_4.out hB); (case side2 => exact HC156_4.out); (case side3 => exact Kd.C_below HR156_5.out hB); (case side4 => exact HC156_5.out); (case side5 => exact Kd.C_below HR156_6.out hB); (case side6 => exact HC156_6.out); rintro e w46 ⟨v184, v187, v190, rfl, ho0, ho1, ho2, hb⟩; refine ⟨_, rfl, ?_⟩; have HO185 := Aside0.mk (Kd.R_lower ho0 (below_size hB)); have HO188 := Aside0.mk (Kd.R_lower ho1 (below_size hB)); have HO191 := Aside0.mk (Kd.R_lower (Kd.R_newB (Kd.R_new' ho2 (Kd.R_lt (by (with_reducible repeat (first|apply rA|apply rN|apply rD)); exact (Kd.R_mono (Kd.R_far (p := ⟨gb157, 7, none⟩) (Kd.R_far (p := ⟨gb157, 6, none⟩) (Kd.R_far (p := ⟨gb157, 5, none⟩) (Kd.R_far (p := ⟨gb157, 4, none⟩) (Kd.R_far (p := ⟨gb157, 3, none⟩) (Kd.R_far (p := ⟨gb157, 2, none⟩) (Kd.R_far (p := ⟨gb157, 1, none⟩) (Kd.R_far (p := ⟨gb157, 0, none⟩) (Kd.R_mono HO_3.out (fun k_ hk => (⟨hk, hk.2⟩ : _ ∧ k_ ≠ gb157))) (fun _ hk => hk.2) (.int .i64 ((rd_T34 l0 x4_1).f0))) (fun _ hk => hk.2) (.string ((rd_T34 l0 x4_1).f1))) (fun _ hk => hk.2) (.string ((rd_T34 l0 x4_1).f2))) (fun _ hk => hk.2) (.string ((rd_T34 l0 x4_1).f3))) (fun _ hk => hk.2) (.slice A156_4 ((rd_T34 l0 x4_1).f4).length c156_4)) (fun _ hk => hk.2) (.slice A156_5 ((rd_T34 l0 x4_1).f5).length c156_5)) (fun _ hk => hk.2) (.slice A156_6 ((rd_T34 l0 x4_1).f6).length c156_6)) (fun _ hk => hk.2) (.string ((rd_T34 l0 x4_1).f7))) (fun _ h_ => h_.1))))) (g := gb157) (by (with_reducible repeat (first | refine bN ?_ _|refine bD ?_|refine bA ?_ _)); exact put8 (by (with_reducible repeat (first | refine bN ?_ _|refine bD ?_|refine bA ?_ _)); exact BK157.out))) (below_size hB)); replace HO_3 := Aside0.mk (Kd.R_mono (Kd.R_told (Kd.R_told (Kd.R_told (Kd.R_old (by (with_reducible repeat (first|apply rA|apply rN|apply rD)); exact (Kd.R_mono (Kd.R_far (p := ⟨gb157, 7, none⟩) (Kd.R_far (p := ⟨gb157, 6, none⟩) (Kd.R_far (p := ⟨gb157, 5, none⟩) (Kd.R_far (p := ⟨gb157, 4, none⟩) (Kd.R_far (p := ⟨gb157, 3, none⟩) (Kd.R_far (p := ⟨gb157, 2, none⟩) (Kd.R_far (p := ⟨gb157, 1, none⟩) (Kd.R_far (p := ⟨gb157, 0, none⟩) (Kd.R_mono HO_3.out (fun k_ hk => (⟨hk, hk.2⟩ : _ ∧ k_ ≠ gb157))) (fun _ hk => hk.2) (.int .i64 ((rd_T34 l0 x4_1).f0))) (fun _ hk => hk.2) (.string ((rd_T34 l0 x4_1).f1))) (fun _ hk => hk.2) (.string ((rd_T34 l0 x4_1).f2))) (fun _ hk => hk.2) (.string ((rd_T34 l0 x4_1).f3))) (fun _ hk => hk.2) (.slice A156_4 ((rd_T34 l0 x4_1).f4).length c156_4)) (fun _ hk => hk.2) (.slice A156_5 ((rd_T34 l0 x4_1).f5).length c156_5)) (fun _ hk => hk.2) (.slice A156_6 ((rd_T34 l0 x4_1).f6).length c156_6)) (fun _ hk => hk.2) (.string ((rd_T34 l0 x4_1).f7))) (fun _ h_ => h_.1))) hb) (Kd.R_base ho0)) (Kd.R_base ho1)) (Kd.R_base ho2)) (fun _ h_ => h_.1)); replace BK157 := Aside0.mk (blk_below (g := gb157) (by (with_reducible repeat (first | refine bN ?_ _|refine bD ?_|refine bA ?_ _)); exact put8 (by (with_reducible repeat (first | refine bN ?_ _|refine bD ?_|refine bA ?_ _)); exact BK157.out)) hb); replace HB := Aside0.mk (below_step hB hb); (try clear hb); (try clear hb2); (try clear hk); (try clear hi); (try clear ho0); (try clear ho1); (try clear ho2)) | ((with_reducible refine gate_dst (N := 6) rfl ?_); (try (refine gate_guard (by rfl) ?_; dsimp only)); refine box_event ?hg (N := 6) ?hd (cs := #[.int .i64 0, .string (⟨#[]⟩ : ByteArray), .string (⟨#[]⟩ : ByteArray), .string (⟨#[]⟩ : ByteArray), .slice none 0 0, .slice none 0 0, .slice none 0 0, .string (⟨#[]⟩ : ByteArray)]) (t := 34) ?hr ?_; (case hd => rfl); (case hg => rfl); (case hr => first | (go_simp; done) | (go_simp; rfl)); intro gb193 hg w47 hbox hb; replace HO_3 := Aside0.mk (Kd.R_below (Kd.R_elderB (by (with_reducible repeat (first|apply rA|apply rN|apply rD)); exact HO_3.out) gb193 (Nat.le_of_eq hg.symm)) hb); replace HO185 := Aside0.mk (Kd.R_below (by (with_reducible repeat (first|apply rA|apply rN|apply rD)); exact HO185.out) hb); replace HO188 := Aside0.mk (Kd.R_below (by (with_reducible repeat (first|apply rA|apply rN|apply rD)); exact HO188.out) hb); replace HO191 := Aside0.mk (Kd.R_below (Kd.R_elderB (by (with_reducible repeat (first|apply rA|apply rN|apply rD)); exact HO191.out) gb193 (Nat.le_of_eq hg.symm)) hb); have BK193 := Aside0.mk (hbox); have GW193 := Aside0.mk ((by rw [hg]; exact (below_size hB) : w.heap.size ≤ gb193)); have GE193 := Aside0.mk ((by rw [hg]; exact (below_size hB) : w.heap.size ≤ gb193)); replace HB := Aside0.mk (below_step hB hb); have NB157_193 := Aside0.mk ((by rw [hg]; exact Nat.ne_of_lt (blk_lt (g := gb157) (by (with_reducible repeat (first | refine bN ?_ _|refine bD ?_|refine bA ?_ _)); exact BK157.out)) : gb157 ≠ gb193)); have NB193_157 := Aside0.mk ((by rw [hg]; exact Nat.ne_of_gt (blk_lt (g := gb157) (by (with_reducible repeat (first | refine bN ?_ _|refine bD ?_|refine bA ?_ _)); exact BK157.out)) : gb193 ≠ gb157)); replace BK157 := Aside0.mk (blk_below (g := gb157) (by (with_reducible repeat (first | refine bN ?_ _|refine bD ?_|refine bA ?_ _)); exact BK157.out) hb); clear hb hbox hg; have hnb48 := NB193_157.out; have hnc48 := NB157_193.out; obtain ⟨hcz49_0, hcz49_1, hcz49_2, hcz49_3, hcz49_4, hcz49_5, hcz49_6, hcz49_7⟩ := bc8 BK193.out; obtain ⟨hfz49_0, hfz49_1, hfz49_2, hfz49_3, hfz49_4, hfz49_5, hfz49_6, hfz49_7⟩ := bf8 BK193.out; obtain ⟨Ao50, co50, eo50⟩ := Kd.R_slice HO185.out; subst eo50; obtain ⟨Ao51, co51, eo51⟩ := Kd.R_slice HO188.out; subst eo51; obtain ⟨Ao52, co52, eo52⟩ := Kd.R_slice HO191.out; subst eo52) | ((with_reducible refine gate_store (t := 34) (p := 6) rfl ?_); refine store_event (t := 34) (p := 6) (v := ?vo_w53) (w1 := ((((((((w47.setCell ⟨gb193, 0, none⟩ (.int .i64 t179)).setCell ⟨gb193, 1, none⟩ (.string t180)).setCell ⟨gb193, 2, none⟩ (.string t181)).setCell ⟨gb193, 3, none⟩ (.string t182)).setCell ⟨gb193, 4, none⟩ (.slice Ao50 t183.length co50)).setCell ⟨gb193, 5, none⟩ (.slice Ao51 t186.length co51)).setCell ⟨gb193, 6, none⟩ (.slice Ao52 t189.length co52)).setCell ⟨gb193, 7, none⟩ (.string t192))) ?hg ?ho ?hn ?hr ?_; (case ho => rfl); (case hg => rfl); (case hn => rfl); (case hr => first | (go_simp; done) | (go_simp; rfl)); intro w53 hw; have n0_ : Aside0 (Kd.R k34 34 w53 w.heap.size (fun k_ => some k_ ≠ (.slice Ao50 t183.length co50 : Value).ownBlock ∧ some k_ ≠ (.slice Ao51 t186.length co51 : Value).ownBlock ∧ some k_ ≠ (.slice Ao52 t189.length co52 : Value).ownBlock ∧ k_ ≠ gb157 ∧ k_ ≠ gb193) (.slice Ao45 x3_1.length co45) x3_1) := ⟨(by rw [hw]; exact (by (with_reducible repeat (first|apply rA|apply rN|apply rD)); exact Kd.R_mono (Kd.R_far (p := ⟨gb193, 7, none⟩) (Kd.R_far (p := ⟨gb193, 6, none⟩) (Kd.R_far (p := ⟨gb193, 5, none⟩) (Kd.R_far (p := ⟨gb193, 4, none⟩) (Kd.R_far (p := ⟨gb193, 3, none⟩) (Kd.R_far (p := ⟨gb193, 2, none⟩) (Kd.R_far (p := ⟨gb193, 1, none⟩) (Kd.R_far (p := ⟨gb193, 0, none⟩) (Kd.R_mono HO_3.out (fun k_ hk => (⟨hk, hk.2⟩ : _ ∧ k_ ≠ gb193))) (fun _ hk => hk.2) (.int .i64 t179)) (fun _ hk => hk.2) (.string t180)) (fun _ hk => hk.2) (.string t181)) (fun _ hk => hk.2) (.string t182)) (fun _ hk => hk.2) (.slice Ao50 t183.length co50)) (fun _ hk => hk.2) (.slice Ao51 t186.length co51)) (fun _ hk => hk.2) (.slice Ao52 t189.length co52)) (fun _ hk => hk.2) (.string t192)) (fun _ hk => ⟨hk.1.1.1.1.2, ⟨hk.1.1.1.2, ⟨hk.1.1.2, ⟨hk.1.1.1.1.1.2, hk.1.2⟩⟩⟩⟩)))⟩; have n1_ : Aside0 (Kd.R k88 88 w53 w.heap.size (fun _ => True) (.slice Ao50 t183.length co50) t183) := ⟨(by rw [hw]; exact (by (with_reducible repeat (first|apply rA|apply rN|apply rD)); exact Kd.R_mono (Kd.R_far (p := ⟨gb193, 7, none⟩) (Kd.R_far (p := ⟨gb193, 6, none⟩) (Kd.R_far (p := ⟨gb193, 5, none⟩) (Kd.R_far (p := ⟨gb193, 4, none⟩) (Kd.R_far (p := ⟨gb193, 3, none⟩) (Kd.R_far (p := ⟨gb193, 2, none⟩) (Kd.R_far (p := ⟨gb193, 1, none⟩) (Kd.R_far (p := ⟨gb193, 0, none⟩) (Kd.R_types HO185.out BK193.out (by decide)) (fun _ hk => hk.2) (.int .i64 t179)) (fun _ hk => hk.2) (.string t180)) (fun _ hk => hk.2) (.string t181)) (fun _ hk => hk.2) (.string t182)) (fun _ hk => hk.2) (.slice Ao50 t183.length co50)) (fun _ hk => hk.2) (.slice Ao51 t186.length co51)) (fun _ hk => hk.2) (.slice Ao52 t189.length co52)) (fun _ hk => hk.2) (.string t192)) (fun _ hk => trivial)))⟩; have n2_ : Aside0 (Kd.R k90 90 w53 w.heap.size (fun _ => True) (.slice Ao51 t186.length co51) t186) := ⟨(by rw [hw]; exact (by (with_reducible repeat (first|apply rA|apply rN|apply rD)); exact Kd.R_mono (Kd.R_far (p := ⟨gb193, 7, none⟩) (Kd.R_far (p := ⟨gb193, 6, none⟩) (Kd.R_far (p := ⟨gb193, 5, none⟩) (Kd.R_far (p := ⟨gb193, 4, none⟩) (Kd.R_far (p := ⟨gb193, 3, none⟩) (Kd.R_far (p := ⟨gb193, 2, none⟩) (Kd.R_far (p := ⟨gb193, 1, none⟩) (Kd.R_far (p := ⟨gb193, 0, none⟩) (Kd.R_types HO188.out BK193.out (by decide)) (fun _ hk => hk.2) (.int .i64 t179)) (fun _ hk => hk.2) (.string t180)) (fun _ hk => hk.2) (.string t181)) (fun _ hk => hk.2) (.string t182)) (fun _ hk => hk.2) (.slice Ao50 t183.length co50)) (fun _ hk => hk.2) (.slice Ao51 t186.length co51)) (fun _ hk => hk.2) (.slice Ao52 t189.length co52)) (fun _ hk => hk.2) (.string t192)) (fun _ hk => trivial)))⟩; have n3_ : Aside0 (Kd.R k34 34 w53 w.heap.size (fun k_ => some k_ ≠ (.slice Ao45 x3_1.length co45 : Value).ownBlock ∧ some k_ ≠ (.slice Ao50 t183.length co50 : Value).ownBlock ∧ some k_ ≠ (.slice Ao51 t186.length co51 : Value).ownBlock ∧ k_ ≠ gb157 ∧ k_ ≠ gb193) (.slice Ao52 t189.length co52) t189) := ⟨(by rw [hw]; exact (by (with_reducible repeat (first|apply rA|apply rN|apply rD)); exact Kd.R_mono (Kd.R_far (p := ⟨gb193, 7, none⟩) (Kd.R_far (p := ⟨gb193, 6, none⟩) (Kd.R_far (p := ⟨gb193, 5, none⟩) (Kd.R_far (p := ⟨gb193, 4, none⟩) (Kd.R_far (p := ⟨gb193, 3, none⟩) (Kd.R_far (p := ⟨gb193, 2, none⟩) (Kd.R_far (p := ⟨gb193, 1, none⟩) (Kd.R_far (p := ⟨gb193, 0, none⟩) (Kd.R_mono HO191.out (fun k_ hk => (⟨hk, hk.2⟩ : _ ∧ k_ ≠ gb193))) (fun _ hk => hk.2) (.int .i64 t179)) (fun _ hk => hk.2) (.string t180)) (fun _ hk => hk.2) (.string t181)) (fun _ hk => hk.2) (.string t182)) (fun _ hk => hk.2) (.slice Ao50 t183.length co50)) (fun _ hk => hk.2) (.slice Ao51 t186.length co51)) (fun _ hk => hk.2) (.slice Ao52 t189.length co52)) (fun _ hk => hk.2) (.string t192)) (fun _ hk => ⟨hk.1.1.1.2, ⟨hk.1.1.1.1.1, ⟨hk.1.1.1.1.2, ⟨hk.1.1.2, hk.1.2⟩⟩⟩⟩)))⟩; have n4_ : Aside0 (w53.heap[gb157]? = some (.cells #[.int .i64 ((rd_T34 l0 x4_1).f0), .string ((rd_T34 l0 x4_1).f1), .string ((rd_T34 l0 x4_1).f2), .string ((rd_T34 l0 x4_1).f3), .slice A156_4 ((rd_T34 l0 x4_1).f4).length c156_4, .slice A156_5 ((rd_T34 l0 x4_1).f5).length c156_5, .slice A156_6 ((rd_T34 l0 x4_1).f6).length c156_6, .string ((rd_T34 l0 x4_1).f7)] 34 (0, 0))) := ⟨(by rw [hw]; exact (by (with_reducible repeat (first | refine bN ?_ _|refine bD ?_|refine bA ?_ _)); exact pfa8 (hn := NB157_193.out) (by (with_reducible repeat (first | refine bN ?_ _|refine bD ?_|refine bA ?_ _)); exact BK157.out)))⟩; have n5_ : Aside0 (w53.heap[gb193]? = some (.cells #[.int .i64 t179, .string t180, .string t181, .string t182, .slice Ao50 t183.length co50, .slice Ao51 t186.length co51, .slice Ao52 t189.length co52, .string t192] 34 (0, 0))) := ⟨(by rw [hw]; exact (by (with_reducible repeat (first | refine bN ?_ _|refine bD ?_|refine bA ?_ _)); exact put8 (by (with_reducible repeat (first | refine bN ?_ _|refine bD ?_|refine bA ?_ _)); exact BK193.out)))⟩; have n6_ : Aside0 (Below w.heap.size w w53) := ⟨(by rw [hw]; exact hB)⟩; clear hw; clear HO_3; clear HO185; clear HO188; clear HO191; clear BK157; clear BK193; clear HB; have HO_3 := n0_; have HO185 := n1_; have HO188 := n2_; have HO191 := n3_; have BK157 := n4_; have BK193 := n5_; have HB := n6_; clear n0_ n1_ n2_ n3_ n4_ n5_ n6_; obtain ⟨hcz54_0, hcz54_1, hcz54_2, hcz54_3, hcz54_4, hcz54_5, hcz54_6, hcz54_7⟩ := bc8 BK193.out; obtain ⟨hfz54_0, hfz54_1, hfz54_2, hfz54_3, hfz54_4, hfz54_5, hfz54_6, hfz54_7⟩ := bf8 BK193.out) | ((with_reducible refine gate_builtin (b := .append) (xs := #[.tmp 55, .tmp 57]) rfl ?_); (try (refine gate_guard (by rfl) ?_; dsimp only)); at_builtin; refine Kd.R_append k34 (w0 := w) w.heap.size rfl (.tmp 55) (.tmp 57) 32 34 (.agg #[(.int .i64 0), (.string ⟨#[]⟩), (.string ⟨#[]⟩), (.string ⟨#[]⟩), (.slice none 0 0), (.slice none 0 0), (.slice none 0 0), (.string ⟨#[]⟩)]) 144 rfl Try.underlying32 info34 rfl (by decide) (by omega) (.slice Ao45 x3_1.length co45) x3_1 (⟨t179, t180, t181, t182, t183, t186, t189, t192⟩ : S34) [.int .i64 t179, .string t180, .string t181, .string t182, .slice Ao50 t183.length co50, .slice Ao51 t186.length co51, .slice Ao52 t189.length co52, .string t192] (fun k_ => k_ ≠ gb157 ∧ k_ ≠ gb193) (fun k_ => ((fun k_ => k_ ≠ gb157 ∧ k_ ≠ gb193)) k_ ∧ some k_ ≠ (.slice Ao45 x3_1.length co45 : Value).ownBlock) rfl rfl ?aP (fun _ hk => hk) ?aF ?aO ?aB ?aS ?aL ?_; (case aP => exact k34_mkM _ _ _ (⟨t179, t180, t181, t182, t183, t186, t189, t192⟩ : S34) (Kd.R_mono (Kd.R_types (Kd.R_types (Kd.R_apart' (HO185.out) (Kd.R_typed HO_3.out) (by decide)) BK157.out (by decide)) BK193.out (by decide)) (fun k_ hk => ⟨⟨hk.1.2, hk.2⟩, hk.1.1.2⟩)) (Kd.R_mono (Kd.R_types (Kd.R_types (Kd.R_apart' (HO188.out) (Kd.R_typed HO_3.out) (by decide)) BK157.out (by decide)) BK193.out (by decide)) (fun k_ hk => ⟨⟨hk.1.2, hk.2⟩, hk.1.1.2⟩)) (Kd.R_mono (HO191.out) (fun k_ hk => ⟨⟨hk.2.2.2.1, hk.2.2.2.2⟩, hk.1⟩))); (case aB => exact hB); (case aF => exact (fun k_ hk => ⟨Kd.freshB (g := gb157) (by (with_reducible repeat (first | refine bN ?_ _|refine bD ?_|refine bA ?_ _)); exact BK157.out) k_ hk, Kd.freshB (g := gb193) (by (with_reducible repeat (first | refine bN ?_ _|refine bD ?_|refine bA ?_ _)); exact BK193.out) k_ hk⟩)); (case aO => exact (by (with_reducible repeat (first|apply rA|apply rN|apply rD)); exact Kd.R_mono HO_3.out (fun _ hk => ⟨hk.2.2.2.1, hk.2.2.2.2⟩))); (case aS => exact (below_size hB)); (case aL => have := LMc42.out; omega); intro v195 w55 ho hb hg hat; rw [← Ny194.out] at ho; replace BK157 := Aside0.mk (blk_grown (g := gb157) (by (with_reducible repeat (first | refine bN ?_ _|refine bD ?_|refine bA ?_ _)); exact BK157.out) hg (Kd.R_away HO_3.out (fun _ hk => hk.2.2.2.1))); replace BK193 := Aside0.mk (blk_grown (g := gb193) (by (with_reducible repeat (first | refine bN ?_ _|refine bD ?_|refine bA ?_ _)); exact BK193.out) hg (Kd.R_away HO_3.out (fun _ hk => hk.2.2.2.2))); replace HB := Aside0.mk (hb); have HO196 := Aside0.mk (ho); clear HO_3; clear HO185; clear HO188; clear HO191; clear ho hb hg hat))
       go_roundg k1
       case measure => have := HK1.out; omega
       case rel => exact ⟨(y194), (wrap64 (x4_1 + 1)), rG, H', ⟨by have := HK1.out; omega⟩, ⟨by (with_reducible repeat (first|apply rA|apply rN|apply rD)); exact Kd.R_mono HO196.out (fun _ hk => trivial)⟩, ⟨hB⟩⟩
    ·rw [if_neg c6] at H
     obtain ⟨c6b0, c6b1⟩ := eqF c6
     replace H := Option.bind_eq_some_iff.mp H
     obtain ⟨⟨t197, t198, t199, t200, t201, t204, t207, t210⟩, A560, H⟩ := H
     try dsimp only at H
     have A56 := Aside0.mk A560
     clear A560
     obtain ⟨c57, H⟩ := if_som H
     have LMc57 := Aside0.mk c57
     clear c57
     obtain ⟨y212, hy212⟩ : ∃ y_ : List (S34), y_ = (x3_1 ++ [(⟨t197, t198, t199, t200, t201, t204, t207, t210⟩ : S34)]) := ⟨_, rfl⟩
     replace H : (spec_Merge.l0 k1 l0 y212 (wrap64 (x4_1 + 1))) = some r := by first | (rw [hy212]; with_reducible exact H) | (have H2_ := (Option.bind_some _ _).symm.trans H; rw [hy212]; with_reducible exact H2_) | (have H2_ := (Option.bind_some _ _).symm.trans H; with_reducible exact H2_) | with_reducible exact H | (rw [hy212]; exact H) | exact H
     have Ny212 := Aside0.mk hy212
     clear hy212
     have H' := Aside0.mk H
     clear H
     have p156 : 0 ≤ (x4_1 : Int) := odt
     have q156 : x4_1 < (l0.length : Int) := odt
     obtain ⟨ad156, A156_4, c156_4, A156_5, c156_5, A156_6, c156_6, e156, hx156_0, hx156_1, hx156_2, hx156_3, hx156_4, hx156_5, hx156_6, hx156_7, hl156_4, hi156_4, hl156_5, hi156_5, hl156_6, hi156_6⟩ := at_T34 HR0.out x4_1 p156 q156
     cases e156
     replace hx156_0 := pw_cell_below HB.out hx156_0
     replace hx156_1 := pw_cell_below HB.out hx156_1
     replace hx156_2 := pw_cell_below HB.out hx156_2
     replace hx156_3 := pw_cell_below HB.out hx156_3
     replace hx156_4 := pw_cell_below HB.out hx156_4
     replace hx156_5 := pw_cell_below HB.out hx156_5
     replace hx156_6 := pw_cell_below HB.out hx156_6
     replace hx156_7 := pw_cell_below HB.out hx156_7
     have HR156_4 := Aside0.mk hi156_4
     have HC156_4 := Aside0.mk hl156_4
     clear hi156_4 hl156_4
     have HR156_5 := Aside0.mk hi156_5
     have HC156_5 := Aside0.mk hl156_5
     clear hi156_5 hl156_5
     have HR156_6 := Aside0.mk hi156_6
     have HC156_6 := Aside0.mk hl156_6
     clear hi156_6 hl156_6
     replace p156 := eq_true p156
     replace q156 := eq_true q156
     go_wp2_with (first | ((with_reducible refine gate_dst (N := 5) rfl ?_); (try (refine gate_guard (by rfl) ?_; dsimp only)); refine box_event ?hg (N := 5) ?hd (cs := #[.int .i64 0, .string (⟨#[]⟩ : ByteArray), .string (⟨#[]⟩ : ByteArray), .string (⟨#[]⟩ : ByteArray), .slice none 0 0, .slice none 0 0, .slice none 0 0, .string (⟨#[]⟩ : ByteArray)]) (t := 34) ?hr ?_; (case hd => rfl); (case hg => rfl); (case hr => first | (go_simp; done) | (go_simp; rfl)); intro gb157 hg w58 hbox hb; replace HO_3 := Aside0.mk (Kd.R_below (Kd.R_elderB (by (with_reducible repeat (first|apply rA|apply rN|apply rD)); exact HO_3.out) gb157 (Nat.le_of_eq hg.symm)) hb); have BK157 := Aside0.mk (hbox); have GW157 := Aside0.mk ((by rw [hg]; exact (below_size hB) : w.heap.size ≤ gb157)); have GE157 := Aside0.mk ((by rw [hg]; exact (below_size hB) : w.heap.size ≤ gb157)); replace HB := Aside0.mk (below_step hB hb); clear hb hbox hg; obtain ⟨hcz59_0, hcz59_1, hcz59_2, hcz59_3, hcz59_4, hcz59_5, hcz59_6, hcz59_7⟩ := bc8 BK157.out; obtain ⟨hfz59_0, hfz59_1, hfz59_2, hfz59_3, hfz59_4, hfz59_5, hfz59_6, hfz59_7⟩ := bf8 BK157.out) | ((with_reducible refine gate_callee (f := 46) rfl ?_); refine goesL_ (some 54) rfl rfl Try.func46 (by kernel_rfl) rfl #[.agg #[.int .i64 ((rd_T34 l0 x4_1).f0), .string ((rd_T34 l0 x4_1).f1), .string ((rd_T34 l0 x4_1).f2), .string ((rd_T34 l0 x4_1).f3), .slice A156_4 ((rd_T34 l0 x4_1).f4).length c156_4, .slice A156_5 ((rd_T34 l0 x4_1).f5).length c156_5, .slice A156_6 ((rd_T34 l0 x4_1).f6).length c156_6, .string ((rd_T34 l0 x4_1).f7)]] rfl mA ?_; (with_reducible refine (spec_l5Copy.calls k1 ((rd_T34 l0 x4_1).f0) ((rd_T34 l0 x4_1).f1) ((rd_T34 l0 x4_1).f2) ((rd_T34 l0 x4_1).f3) _ _ ((rd_T34 l0 x4_1).f4) _ _ ((rd_T34 l0 x4_1).f5) _ _ ((rd_T34 l0 x4_1).f6) ((rd_T34 l0 x4_1).f7) t197 t198 t199 t200 t201 t204 t207 t210 _ ?side1 ?side2 ?side3 ?side4 ?side5 ?side6 A56.out).mono ?_); (case side1 => exact Kd.C_below HR156_4.out hB); (case side2 => exact HC156_4.out); (case side3 => exact Kd.C_below HR156_5.out hB); (case side4 => exact HC156_5.out); (case side5 => exact Kd.C_below HR156_6.out hB); (case side6 => exact HC156_6.out); rintro e w60 ⟨v202, v205, v208, rfl, ho0, ho1, ho2, hb⟩; refine ⟨_, rfl, ?_⟩; have HO203 := Aside0.mk (Kd.R_lower ho0 (below_size hB)); have HO206 := Aside0.mk (Kd.R_lower ho1 (below_size hB)); have HO209 := Aside0.mk (Kd.R_lower (Kd.R_newB (Kd.R_new' ho2 (Kd.R_lt (by (with_reducible repeat (first|apply rA|apply rN|apply rD)); exact (Kd.R_mono (Kd.R_far (p := ⟨gb157, 7, none⟩) (Kd.R_far (p := ⟨gb157, 6, none⟩) (Kd.R_far (p := ⟨gb157, 5, none⟩) (Kd.R_far (p := ⟨gb157, 4, none⟩) (Kd.R_far (p := ⟨gb157, 3, none⟩) (Kd.R_far (p := ⟨gb157, 2, none⟩) (Kd.R_far (p := ⟨gb157, 1, none⟩) (Kd.R_far (p := ⟨gb157, 0, none⟩) (Kd.R_mono HO_3.out (fun k_ hk => (⟨hk, hk.2⟩ : _ ∧ k_ ≠ gb157))) (fun _ hk => hk.2) (.int .i64 ((rd_T34 l0 x4_1).f0))) (fun _ hk => hk.2) (.string ((rd_T34 l0 x4_1).f1))) (fun _ hk => hk.2) (.string ((rd_T34 l0 x4_1).f2))) (fun _ hk => hk.2) (.string ((rd_T34 l0 x4_1).f3))) (fun _ hk => hk.2) (.slice A156_4 ((rd_T34 l0 x4_1).f4).length c156_4)) (fun _ hk => hk.2) (.slice A156_5 ((rd_T34 l0 x4_1).f5).length c156_5)) (fun _ hk => hk.2) (.slice A156_6 ((rd_T34 l0 x4_1).f6).length c156_6)) (fun _ hk => hk.2) (.string ((rd_T34 l0 x4_1).f7))) (fun _ h_ => h_.1))))) (g := gb157) (by (with_reducible repeat (first | refine bN ?_ _|refine bD ?_|refine bA ?_ _)); exact put8 (by (with_reducible repeat (first | refine bN ?_ _|refine bD ?_|refine bA ?_ _)); exact BK157.out))) (below_size hB)); replace HO_3 := Aside0.mk (Kd.R_mono (Kd.R_told (Kd.R_told (Kd.R_told (Kd.R_old (by (with_reducible repeat (first|apply rA|apply rN|apply rD)); exact (Kd.R_mono (Kd.R_far (p := ⟨gb157, 7, none⟩) (Kd.R_far (p := ⟨gb157, 6, none⟩) (Kd.R_far (p := ⟨gb157, 5, none⟩) (Kd.R_far (p := ⟨gb157, 4, none⟩) (Kd.R_far (p := ⟨gb157, 3, none⟩) (Kd.R_far (p := ⟨gb157, 2, none⟩) (Kd.R_far (p := ⟨gb157, 1, none⟩) (Kd.R_far (p := ⟨gb157, 0, none⟩) (Kd.R_mono HO_3.out (fun k_ hk => (⟨hk, hk.2⟩ : _ ∧ k_ ≠ gb157))) (fun _ hk => hk.2) (.int .i64 ((rd_T34 l0 x4_1).f0))) (fun _ hk => hk.2) (.string ((rd_T34 l0 x4_1).f1))) (fun _ hk => hk.2) (.string ((rd_T34 l0 x4_1).f2))) (fun _ hk => hk.2) (.string ((rd_T34 l0 x4_1).f3))) (fun _ hk => hk.2) (.slice A156_4 ((rd_T34 l0 x4_1).f4).length c156_4)) (fun _ hk => hk.2) (.slice A156_5 ((rd_T34 l0 x4_1).f5).length c156_5)) (fun _ hk => hk.2) (.slice A156_6 ((rd_T34 l0 x4_1).f6).length c156_6)) (fun _ hk => hk.2) (.string ((rd_T34 l0 x4_1).f7))) (fun _ h_ => h_.1))) hb) (Kd.R_base ho0)) (Kd.R_base ho1)) (Kd.R_base ho2)) (fun _ h_ => h_.1)); replace BK157 := Aside0.mk (blk_below (g := gb157) (by (with_reducible repeat (first | refine bN ?_ _|refine bD ?_|refine bA ?_ _)); exact put8 (by (with_reducible repeat (first | refine bN ?_ _|refine bD ?_|refine bA ?_ _)); exact BK157.out)) hb); replace HB := Aside0.mk (below_step hB hb); (try clear hb); (try clear hb2); (try clear hk); (try clear hi); (try clear ho0); (try clear ho1); (try clear ho2)) | ((with_reducible refine gate_dst (N := 6) rfl ?_); (try (refine gate_guard (by rfl) ?_; dsimp only)); refine box_event ?hg (N := 6) ?hd (cs := #[.int .i64 0, .string (⟨#[]⟩ : ByteArray), .string (⟨#[]⟩ : ByteArray), .string (⟨#[]⟩ : ByteArray), .slice none 0 0, .slice none 0 0, .slice none 0 0, .string (⟨#[]⟩ : ByteArray)]) (t := 34) ?hr ?_; (case hd => rfl); (case hg => rfl); (case hr => first | (go_simp; done) | (go_simp; rfl)); intro gb211 hg w61 hbox hb; replace HO_3 := Aside0.mk (Kd.R_below (Kd.R_elderB (by (with_reducible repeat (first|apply rA|apply rN|apply rD)); exact HO_3.out) gb211 (Nat.le_of_eq hg.symm)) hb); replace HO203 := Aside0.mk (Kd.R_below (by (with_reducible repeat (first|apply rA|apply rN|apply rD)); exact HO203.out) hb); replace HO206 := Aside0.mk (Kd.R_below (by (with_reducible repeat (first|apply rA|apply rN|apply rD)); exact HO206.out) hb); replace HO209 := Aside0.mk (Kd.R_below (Kd.R_elderB (by (with_reducible repeat (first|apply rA|apply rN|apply rD)); exact HO209.out) gb211 (Nat.le_of_eq hg.symm)) hb); have BK211 := Aside0.mk (hbox); have GW211 := Aside0.mk ((by rw [hg]; exact (below_size hB) : w.heap.size ≤ gb211)); have GE211 := Aside0.mk ((by rw [hg]; exact (below_size hB) : w.heap.size ≤ gb211)); replace HB := Aside0.mk (below_step hB hb); have NB157_211 := Aside0.mk ((by rw [hg]; exact Nat.ne_of_lt (blk_lt (g := gb157) (by (with_reducible repeat (first | refine bN ?_ _|refine bD ?_|refine bA ?_ _)); exact BK157.out)) : gb157 ≠ gb211)); have NB211_157 := Aside0.mk ((by rw [hg]; exact Nat.ne_of_gt (blk_lt (g := gb157) (by (with_reducible repeat (first | refine bN ?_ _|refine bD ?_|refine bA ?_ _)); exact BK157.out)) : gb211 ≠ gb157)); replace BK157 := Aside0.mk (blk_below (g := gb157) (by (with_reducible repeat (first | refine bN ?_ _|refine bD ?_|refine bA ?_ _)); exact BK157.out) hb); clear hb hbox hg; have hnb62 := NB211_157.out; have hnc62 := NB157_211.out; obtain ⟨hcz63_0, hcz63_1, hcz63_2, hcz63_3, hcz63_4, hcz63_5, hcz63_6, hcz63_7⟩ := bc8 BK211.out; obtain ⟨hfz63_0, hfz63_1, hfz63_2, hfz63_3, hfz63_4, hfz63_5, hfz63_6, hfz63_7⟩ := bf8 BK211.out; obtain ⟨Ao64, co64, eo64⟩ := Kd.R_slice HO203.out; subst eo64; obtain ⟨Ao65, co65, eo65⟩ := Kd.R_slice HO206.out; subst eo65; obtain ⟨Ao66, co66, eo66⟩ := Kd.R_slice HO209.out; subst eo66) | ((with_reducible refine gate_store (t := 34) (p := 6) rfl ?_); refine store_event (t := 34) (p := 6) (v := ?vo_w67) (w1 := ((((((((w61.setCell ⟨gb211, 0, none⟩ (.int .i64 t197)).setCell ⟨gb211, 1, none⟩ (.string t198)).setCell ⟨gb211, 2, none⟩ (.string t199)).setCell ⟨gb211, 3, none⟩ (.string t200)).setCell ⟨gb211, 4, none⟩ (.slice Ao64 t201.length co64)).setCell ⟨gb211, 5, none⟩ (.slice Ao65 t204.length co65)).setCell ⟨gb211, 6, none⟩ (.slice Ao66 t207.length co66)).setCell ⟨gb211, 7, none⟩ (.string t210))) ?hg ?ho ?hn ?hr ?_; (case ho => rfl); (case hg => rfl); (case hn => rfl); (case hr => first | (go_simp; done) | (go_simp; rfl)); intro w67 hw; have n0_ : Aside0 (Kd.R k34 34 w67 w.heap.size (fun k_ => some k_ ≠ (.slice Ao64 t201.length co64 : Value).ownBlock ∧ some k_ ≠ (.slice Ao65 t204.length co65 : Value).ownBlock ∧ some k_ ≠ (.slice Ao66 t207.length co66 : Value).ownBlock ∧ k_ ≠ gb157 ∧ k_ ≠ gb211) u3 x3_1) := ⟨(by rw [hw]; exact (by (with_reducible repeat (first|apply rA|apply rN|apply rD)); exact Kd.R_mono (Kd.R_far (p := ⟨gb211, 7, none⟩) (Kd.R_far (p := ⟨gb211, 6, none⟩) (Kd.R_far (p := ⟨gb211, 5, none⟩) (Kd.R_far (p := ⟨gb211, 4, none⟩) (Kd.R_far (p := ⟨gb211, 3, none⟩) (Kd.R_far (p := ⟨gb211, 2, none⟩) (Kd.R_far (p := ⟨gb211, 1, none⟩) (Kd.R_far (p := ⟨gb211, 0, none⟩) (Kd.R_mono HO_3.out (fun k_ hk => (⟨hk, hk.2⟩ : _ ∧ k_ ≠ gb211))) (fun _ hk => hk.2) (.int .i64 t197)) (fun _ hk => hk.2) (.string t198)) (fun _ hk => hk.2) (.string t199)) (fun _ hk => hk.2) (.string t200)) (fun _ hk => hk.2) (.slice Ao64 t201.length co64)) (fun _ hk => hk.2) (.slice Ao65 t204.length co65)) (fun _ hk => hk.2) (.slice Ao66 t207.length co66)) (fun _ hk => hk.2) (.string t210)) (fun _ hk => ⟨hk.1.1.1.1.2, ⟨hk.1.1.1.2, ⟨hk.1.1.2, ⟨hk.1.1.1.1.1.2, hk.1.2⟩⟩⟩⟩)))⟩; have n1_ : Aside0 (Kd.R k88 88 w67 w.heap.size (fun _ => True) (.slice Ao64 t201.length co64) t201) := ⟨(by rw [hw]; exact (by (with_reducible repeat (first|apply rA|apply rN|apply rD)); exact Kd.R_mono (Kd.R_far (p := ⟨gb211, 7, none⟩) (Kd.R_far (p := ⟨gb211, 6, none⟩) (Kd.R_far (p := ⟨gb211, 5, none⟩) (Kd.R_far (p := ⟨gb211, 4, none⟩) (Kd.R_far (p := ⟨gb211, 3, none⟩) (Kd.R_far (p := ⟨gb211, 2, none⟩) (Kd.R_far (p := ⟨gb211, 1, none⟩) (Kd.R_far (p := ⟨gb211, 0, none⟩) (Kd.R_types HO203.out BK211.out (by decide)) (fun _ hk => hk.2) (.int .i64 t197)) (fun _ hk => hk.2) (.string t198)) (fun _ hk => hk.2) (.string t199)) (fun _ hk => hk.2) (.string t200)) (fun _ hk => hk.2) (.slice Ao64 t201.length co64)) (fun _ hk => hk.2) (.slice Ao65 t204.length co65)) (fun _ hk => hk.2) (.slice Ao66 t207.length co66)) (fun _ hk => hk.2) (.string t210)) (fun _ hk => trivial)))⟩; have n2_ : Aside0 (Kd.R k90 90 w67 w.heap.size (fun _ => True) (.slice Ao65 t204.length co65) t204) := ⟨(by rw [hw]; exact (by (with_reducible repeat (first|apply rA|apply rN|apply rD)); exact Kd.R_mono (Kd.R_far (p := ⟨gb211, 7, none⟩) (Kd.R_far (p := ⟨gb211, 6, none⟩) (Kd.R_far (p := ⟨gb211, 5, none⟩) (Kd.R_far (p := ⟨gb211, 4, none⟩) (Kd.R_far (p := ⟨gb211, 3, none⟩) (Kd.R_far (p := ⟨gb211, 2, none⟩) (Kd.R_far (p := ⟨gb211, 1, none⟩) (Kd.R_far (p := ⟨gb211, 0, none⟩) (Kd.R_types HO206.out BK211.out (by decide)) (fun _ hk => hk.2) (.int .i64 t197)) (fun _ hk => hk.2) (.string t198)) (fun _ hk => hk.2) (.string t199)) (fun _ hk => hk.2) (.string t200)) (fun _ hk => hk.2) (.slice Ao64 t201.length co64)) (fun _ hk => hk.2) (.slice Ao65 t204.length co65)) (fun _ hk => hk.2) (.slice Ao66 t207.length co66)) (fun _ hk => hk.2) (.string t210)) (fun _ hk => trivial)))⟩; have n3_ : Aside0 (Kd.R k34 34 w67 w.heap.size (fun k_ => some k_ ≠ (u3 : Value).ownBlock ∧ some k_ ≠ (.slice Ao64 t201.length co64 : Value).ownBlock ∧ some k_ ≠ (.slice Ao65 t204.length co65 : Value).ownBlock ∧ k_ ≠ gb157 ∧ k_ ≠ gb211) (.slice Ao66 t207.length co66) t207) := ⟨(by rw [hw]; exact (by (with_reducible repeat (first|apply rA|apply rN|apply rD)); exact Kd.R_mono (Kd.R_far (p := ⟨gb211, 7, none⟩) (Kd.R_far (p := ⟨gb211, 6, none⟩) (Kd.R_far (p := ⟨gb211, 5, none⟩) (Kd.R_far (p := ⟨gb211, 4, none⟩) (Kd.R_far (p := ⟨gb211, 3, none⟩) (Kd.R_far (p := ⟨gb211, 2, none⟩) (Kd.R_far (p := ⟨gb211, 1, none⟩) (Kd.R_far (p := ⟨gb211, 0, none⟩) (Kd.R_mono HO209.out (fun k_ hk => (⟨hk, hk.2⟩ : _ ∧ k_ ≠ gb211))) (fun _ hk => hk.2) (.int .i64 t197)) (fun _ hk => hk.2) (.string t198)) (fun _ hk => hk.2) (.string t199)) (fun _ hk => hk.2) (.string t200)) (fun _ hk => hk.2) (.slice Ao64 t201.length co64)) (fun _ hk => hk.2) (.slice Ao65 t204.length co65)) (fun _ hk => hk.2) (.slice Ao66 t207.length co66)) (fun _ hk => hk.2) (.string t210)) (fun _ hk => ⟨hk.1.1.1.2, ⟨hk.1.1.1.1.1, ⟨hk.1.1.1.1.2, ⟨hk.1.1.2, hk.1.2⟩⟩⟩⟩)))⟩; have n4_ : Aside0 (w67.heap[gb157]? = some (.cells #[.int .i64 ((rd_T34 l0 x4_1).f0), .string ((rd_T34 l0 x4_1).f1), .string ((rd_T34 l0 x4_1).f2), .string ((rd_T34 l0 x4_1).f3), .slice A156_4 ((rd_T34 l0 x4_1).f4).length c156_4, .slice A156_5 ((rd_T34 l0 x4_1).f5).length c156_5, .slice A156_6 ((rd_T34 l0 x4_1).f6).length c156_6, .string ((rd_T34 l0 x4_1).f7)] 34 (0, 0))) := ⟨(by rw [hw]; exact (by (with_reducible repeat (first | refine bN ?_ _|refine bD ?_|refine bA ?_ _)); exact pfa8 (hn := NB157_211.out) (by (with_reducible repeat (first | refine bN ?_ _|refine bD ?_|refine bA ?_ _)); exact BK157.out)))⟩; have n5_ : Aside0 (w67.heap[gb211]? = some (.cells #[.int .i64 t197, .string t198, .string t199, .string t200, .slice Ao64 t201.length co64, .slice Ao65 t204.length co65, .slice Ao66 t207.length co66, .string t210] 34 (0, 0))) := ⟨(by rw [hw]; exact (by (with_reducible repeat (first | refine bN ?_ _|refine bD ?_|refine bA ?_ _)); exact put8 (by (with_reducible repeat (first | refine bN ?_ _|refine bD ?_|refine bA ?_ _)); exact BK211.out)))⟩; have n6_ : Aside0 (Below w.heap.size w w67) := ⟨(by rw [hw]; exact hB)⟩; clear hw; clear HO_3; clear HO203; clear HO206; clear HO209; clear BK157; clear BK211; clear HB; have HO_3 := n0_; have HO203 := n1_; have HO206 := n2_; have HO209 := n3_; have BK157 := n4_; have BK211 := n5_; have HB := n6_; clear n0_ n1_ n2_ n3_ n4_ n5_ n6_; obtain ⟨hcz68_0, hcz68_1, hcz68_2, hcz68_3, hcz68_4, hcz68_5, hcz68_6, hcz68_7⟩ := bc8 BK211.out; obtain ⟨hfz68_0, hfz68_1, hfz68_2, hfz68_3, hfz68_4, hfz68_5, hfz68_6, hfz68_7⟩ := bf8 BK211.out) | ((with_reducible refine gate_builtin (b := .append) (xs := #[.tmp 55, .tmp 57]) rfl ?_); (try (refine gate_guard (by rfl) ?_; dsimp only)); at_builtin; refine Kd.R_append k34 (w0 := w) w.heap.size rfl (.tmp 55) (.tmp 57) 32 34 (.agg #[(.int .i64 0), (.string ⟨#[]⟩), (.string ⟨#[]⟩), (.string ⟨#[]⟩), (.slice none 0 0), (.slice none 0 0), (.slice none 0 0), (.string ⟨#[]⟩)]) 144 rfl Try.underlying32 info34 rfl (by decide) (by omega) u3 x3_1 (⟨t197, t198, t199, t200, t201, t204, t207, t210⟩ : S34) [.int .i64 t197, .string t198, .string t199, .string t200, .slice Ao64 t201.length co64, .slice Ao65 t204.length co65, .slice Ao66 t207.length co66, .string t210] (fun k_ => k_ ≠ gb157 ∧ k_ ≠ gb211) (fun k_ => ((fun k_ => k_ ≠ gb157 ∧ k_ ≠ gb211)) k_ ∧ some k_ ≠ (u3 : Value).ownBlock) rfl rfl ?aP (fun _ hk => hk) ?aF ?aO ?aB ?aS ?aL ?_; (case aP => exact k34_mkM _ _ _ (⟨t197, t198, t199, t200, t201, t204, t207, t210⟩ : S34) (Kd.R_mono (Kd.R_types (Kd.R_types (Kd.R_apart' (HO203.out) (Kd.R_typed HO_3.out) (by decide)) BK157.out (by decide)) BK211.out (by decide)) (fun k_ hk => ⟨⟨hk.1.2, hk.2⟩, hk.1.1.2⟩)) (Kd.R_mono (Kd.R_types (Kd.R_types (Kd.R_apart' (HO206.out) (Kd.R_typed HO_3.out) (by decide)) BK157.out (by decide)) BK211.out (by decide)) (fun k_ hk => ⟨⟨hk.1.2, hk.2⟩, hk.1.1.2⟩)) (Kd.R_mono (HO209.out) (fun k_ hk => ⟨⟨hk.2.2.2.1, hk.2.2.2.2⟩, hk.1⟩))); (case aB => exact hB); (case aF => exact (fun k_ hk => ⟨Kd.freshB (g := gb157) (by (with_reducible repeat (first | refine bN ?_ _|refine bD ?_|refine bA ?_ _)); exact BK157.out) k_ hk, Kd.freshB (g := gb211) (by (with_reducible repeat (first | refine bN ?_ _|refine bD ?_|refine bA ?_ _)); exact BK211.out) k_ hk⟩)); (case aO => exact (by (with_reducible repeat (first|apply rA|apply rN|apply rD)); exact Kd.R_mono HO_3.out (fun _ hk => ⟨hk.2.2.2.1, hk.2.2.2.2⟩))); (case aS => exact (below_size hB)); (case aL => have := LMc57.out; omega); intro v213 w69 ho hb hg hat; rw [← Ny212.out] at ho; replace BK157 := Aside0.mk (blk_grown (g := gb157) (by (with_reducible repeat (first | refine bN ?_ _|refine bD ?_|refine bA ?_ _)); exact BK157.out) hg (Kd.R_away HO_3.out (fun _ hk => hk.2.2.2.1))); replace BK211 := Aside0.mk (blk_grown (g := gb211) (by (with_reducible repeat (first | refine bN ?_ _|refine bD ?_|refine bA ?_ _)); exact BK211.out) hg (Kd.R_away HO_3.out (fun _ hk => hk.2.2.2.2))); replace HB := Aside0.mk (hb); have HO214 := Aside0.mk (ho); clear HO_3; clear HO203; clear HO206; clear HO209; clear ho hb hg hat))
     go_roundg k1
     case measure => have := HK1.out; omega
     case rel => exact ⟨(y212), (wrap64 (x4_1 + 1)), rG, H', ⟨by have := HK1.out; omega⟩, ⟨by (with_reducible repeat (first|apply rA|apply rN|apply rD)); exact Kd.R_mono HO214.out (fun _ hk => trivial)⟩, ⟨hB⟩⟩
   ·rw [if_neg c4] at H
    have c4b0 : decide (x4_1 < (l0.length : Int)) = false := decide_eq_false c4
    clear c4
    obtain rfl := Option.some.inj H
    go_wp2
    go_ret
    exact ⟨_, rE, by (with_reducible repeat (first|apply rA|apply rN|apply rD)); exact HO_3.out, hB⟩

/-! ### laws_toDecl: function 64 -/
def laws_toDecl.f (a0_0 : ByteArray) (a0_1 : ByteArray) : Option (ByteArray × ByteArray) := some (a0_0, a0_1)
theorem laws_toDecl.calls (a0_0 : ByteArray) (a0_1 : ByteArray) (r1 : ByteArray) (r2 : ByteArray) (w : World) (h : laws_toDecl.f a0_0 a0_1 = some (r1, r2)) :
  Calls Try.prog 64 #[.agg #[.string a0_0, .string a0_1]] w fun e w' => e = .returned (.agg #[.string r1, .string r2]) ∧ Below w.heap.size w w' := by
 have hu84 := Try.underlying84
 have hu88 := Try.underlying88
 have HB := Aside0.mk (Below.refl w.heap.size w)
 have H : (some (a0_0, a0_1)) = some (r1, r2) := h
 clear h
 simp only [Option.some.injEq, Prod.mk.injEq] at H
 obtain ⟨rfl, rfl⟩ := H
 go_enter Try.func64, Try.ntmps64
 go_wp2_with (first | ((with_reducible refine gate_dst (N := 1) rfl ?_); refine box_event ?hg (N := 1) ?hd (cs := #[.string a0_0, .string a0_1]) (t := 84) ?hr ?_; (case hd => rfl); (case hg => rfl); (case hr => first | (go_simp; done) | (go_simp; rfl)); intro gb215 hg w2 hbox hb; have BK215 := Aside0.mk (hbox); have GW215 := Aside0.mk ((by rw [hg]; exact (below_size hB) : w.heap.size ≤ gb215)); have GE215 := Aside0.mk ((by rw [hg]; exact (below_size hB) : w.heap.size ≤ gb215)); replace HB := Aside0.mk (below_step hB hb); clear hb hbox hg) | ((with_reducible refine gate_dst (N := 2) rfl ?_); refine box_event ?hg (N := 2) ?hd (cs := #[.string (⟨#[]⟩ : ByteArray), .string (⟨#[]⟩ : ByteArray)]) (t := 88) ?hr ?_; (case hd => rfl); (case hg => rfl); (case hr => first | (go_simp; done) | (go_simp; rfl)); intro gb216 hg w3 hbox hb; have BK216 := Aside0.mk (hbox); have GW216 := Aside0.mk ((by rw [hg]; exact (below_size hB) : w.heap.size ≤ gb216)); have GE216 := Aside0.mk ((by rw [hg]; exact (below_size hB) : w.heap.size ≤ gb216)); replace HB := Aside0.mk (below_step hB hb); have NB215_216 := Aside0.mk ((by rw [hg]; exact Nat.ne_of_lt (blk_lt (g := gb215) (by (with_reducible repeat (first | refine bN ?_ _|refine bD ?_|refine bA ?_ _)); exact BK215.out)) : gb215 ≠ gb216)); have NB216_215 := Aside0.mk ((by rw [hg]; exact Nat.ne_of_gt (blk_lt (g := gb215) (by (with_reducible repeat (first | refine bN ?_ _|refine bD ?_|refine bA ?_ _)); exact BK215.out)) : gb216 ≠ gb215)); replace BK215 := Aside0.mk (blk_below (g := gb215) (by (with_reducible repeat (first | refine bN ?_ _|refine bD ?_|refine bA ?_ _)); exact BK215.out) hb); clear hb hbox hg) | ((with_reducible refine gate_dst (N := 3) rfl ?_); refine box_event ?hg (N := 3) ?hd (cs := #[.string (⟨#[]⟩ : ByteArray), .string (⟨#[]⟩ : ByteArray)]) (t := 88) ?hr ?_; (case hd => rfl); (case hg => rfl); (case hr => first | (go_simp; done) | (go_simp; rfl)); intro gb217 hg w4 hbox hb; have BK217 := Aside0.mk (hbox); have GW217 := Aside0.mk ((by rw [hg]; exact (below_size hB) : w.heap.size ≤ gb217)); have GE217 := Aside0.mk ((by rw [hg]; exact (below_size hB) : w.heap.size ≤ gb217)); replace HB := Aside0.mk (below_step hB hb); have NB215_217 := Aside0.mk ((by rw [hg]; exact Nat.ne_of_lt (blk_lt (g := gb215) (by (with_reducible repeat (first | refine bN ?_ _|refine bD ?_|refine bA ?_ _)); exact BK215.out)) : gb215 ≠ gb217)); have NB217_215 := Aside0.mk ((by rw [hg]; exact Nat.ne_of_gt (blk_lt (g := gb215) (by (with_reducible repeat (first | refine bN ?_ _|refine bD ?_|refine bA ?_ _)); exact BK215.out)) : gb217 ≠ gb215)); replace BK215 := Aside0.mk (blk_below (g := gb215) (by (with_reducible repeat (first | refine bN ?_ _|refine bD ?_|refine bA ?_ _)); exact BK215.out) hb); have NB216_217 := Aside0.mk ((by rw [hg]; exact Nat.ne_of_lt (blk_lt (g := gb216) (by (with_reducible repeat (first | refine bN ?_ _|refine bD ?_|refine bA ?_ _)); exact BK216.out)) : gb216 ≠ gb217)); have NB217_216 := Aside0.mk ((by rw [hg]; exact Nat.ne_of_gt (blk_lt (g := gb216) (by (with_reducible repeat (first | refine bN ?_ _|refine bD ?_|refine bA ?_ _)); exact BK216.out)) : gb217 ≠ gb216)); replace BK216 := Aside0.mk (blk_below (g := gb216) (by (with_reducible repeat (first | refine bN ?_ _|refine bD ?_|refine bA ?_ _)); exact BK216.out) hb); clear hb hbox hg; have hnb5 := NB215_216.out; have hnc5 := NB216_215.out; have hnb6 := NB215_217.out; have hnc6 := NB217_215.out; obtain ⟨hcz7_0, hcz7_1⟩ := bc2 BK215.out; obtain ⟨hfz7_0, hfz7_1⟩ := bf2 BK215.out; have hnb8 := NB217_216.out; have hnc8 := NB216_217.out; obtain ⟨hcz9_0, hcz9_1⟩ := bc2 BK217.out; obtain ⟨hfz9_0, hfz9_1⟩ := bf2 BK217.out; obtain ⟨hcz10_0, hcz10_1⟩ := bc2 BK216.out; obtain ⟨hfz10_0, hfz10_1⟩ := bf2 BK216.out))
 refine bodyPost_ret (results_cell_row rfl _ _ gb216 88 #[.string a0_0, .string a0_1] (0, 0) _ rfl (by (with_reducible repeat (first | refine bN ?_ _|refine bD ?_|refine bA ?_ _)); exact put2 (by (with_reducible repeat (first | refine bN ?_ _|refine bD ?_|refine bA ?_ _)); exact pfa2 (hn := NB216_217.out) (by (with_reducible repeat (first | refine bN ?_ _|refine bD ?_|refine bA ?_ _)); exact BK216.out))) Try.underlying88 rfl (by kernel_rfl)) rfl ?_
 exact ⟨rE, hB⟩

/-! ### laws_toDeclS: function 38 -/
def laws_toDeclS.l0 : Nat → List (S84) → List (S88) → Int → Option ((List (S88)))
 | 0, _, _, _ => none
 | k + 1, x0, x3, x4 => if x4 < (x0.length : Int) then (if 0 ≤ x4 then ((laws_toDecl.f ((rd_T84 x0 x4).f0) ((rd_T84 x0 x4).f1)).bind fun bt222 => (if x4 < (x3.length : Int) then (laws_toDeclS.l0 k x0 (x3.set (x4 : Int).toNat (⟨bt222.1, bt222.2⟩ : S88)) (wrap64 (x4 + 1))) else (none))) else (none)) else (some x3)
def laws_toDeclS.f (k : Nat) (l0 : List (S84)) : Option ((List (S88))) := if 0 ≤ (l0.length : Int) then (if ((l0.length : Int) : Int).toNat ≤ 8796093022208 then (laws_toDeclS.l0 k l0 (List.replicate ((l0.length : Int) : Int).toNat z88) 0) else (none)) else (none)
theorem laws_toDeclS.mono_l : ∀ k, (∀ y0 y1 y2, LeO (laws_toDeclS.l0 k y0 y1 y2) (laws_toDeclS.l0 (k + 1) y0 y1 y2))
 | 0 => fun _ _ _ r h => by simp [laws_toDeclS.l0] at h
 | k + 1 => by
  have ih0 := laws_toDeclS.mono_l k
  ·intro y0 y1 y2
   unfold laws_toDeclS.l0
   repeat' first
   | (with_reducible exact ih0 _ _ _)
   | (with_reducible exact LeO.refl _)
   | (with_reducible exact LeO.none _)
   | (with_reducible refine LeO.ite ?_ ?_)
   | (with_reducible refine LeO.bind ?_ (fun _ => ?_))
   | exact ih0 _ _ _
   | exact LeO.none _
   | refine LeO.ite ?_ ?_
   | refine LeO.bind ?_ (fun _ => ?_)
theorem laws_toDeclS.mono : ∀ a0 k, LeO (laws_toDeclS.f k a0) (laws_toDeclS.f (k + 1) a0) := by
 intro a0 k
 have ih0 := laws_toDeclS.mono_l k
 unfold laws_toDeclS.f
 repeat' first
   | (with_reducible exact ih0 _ _ _)
   | (with_reducible exact LeO.refl _)
   | (with_reducible exact LeO.none _)
   | (with_reducible refine LeO.ite ?_ ?_)
   | (with_reducible refine LeO.bind ?_ (fun _ => ?_))
   | exact ih0 _ _ _
   | exact LeO.none _
   | refine LeO.ite ?_ ?_
   | refine LeO.bind ?_ (fun _ => ?_)
theorem laws_toDeclS.calls (k : Nat) (A0 : Option Addr) (c0 : Nat) (l0 : List (S84)) (r : List (S88)) (w : World) (hr0 : Kd.C k84 w A0 l0.length l0) (hc0 : l0.length ≤ c0) (h : laws_toDeclS.f k l0 = some r) :
  Calls Try.prog 38 #[.slice A0 l0.length c0] w fun e w' => ∃ v0_ : Value, e = .returned (v0_) ∧ Kd.R k88 88 w' w.heap.size (fun _ => True) v0_ r ∧ Below w.heap.size w w' := by
 have hu84 := Try.underlying84
 have hu88 := Try.underlying88
 have HR0 := Aside0.mk hr0
 have HC0 := Aside0.mk hc0
 clear hr0 hc0
 have HB := Aside0.mk (Below.refl w.heap.size w)
 have H : (if 0 ≤ (l0.length : Int) then (if ((l0.length : Int) : Int).toNat ≤ 8796093022208 then (laws_toDeclS.l0 k l0 (List.replicate ((l0.length : Int) : Int).toNat z88) 0) else (none)) else (none)) = some r := h
 clear h
 obtain ⟨c2, H⟩ := if_som H
 obtain ⟨c2b0, c2b1⟩ := fcT c2
 clear c2
 obtain ⟨c3, H⟩ := if_som H
 obtain ⟨c3b0, c3b1⟩ := fcT c3
 clear c3
 obtain ⟨y218, hy218⟩ : ∃ y_ : List (S88), y_ = (List.replicate ((l0.length : Int) : Int).toNat z88) := ⟨_, rfl⟩
 replace H : (laws_toDeclS.l0 k l0 y218 0) = some r := by first | (rw [hy218]; with_reducible exact H) | (have H2_ := (Option.bind_some _ _).symm.trans H; rw [hy218]; with_reducible exact H2_) | (have H2_ := (Option.bind_some _ _).symm.trans H; with_reducible exact H2_) | with_reducible exact H | (rw [hy218]; exact H) | exact H
 have Ny218 := Aside0.mk hy218
 clear hy218
 have H' := Aside0.mk H
 clear H
 go_enter Try.func38, Try.ntmps38
 go_wp2_with (first | ((with_reducible refine gate_dst (N := 7) rfl ?_); refine Kd.R_make k88 _ 88 rfl (N := 7) rfl 30 _ _ rfl (l0.length : Int) rfl rfl Try.underlying30 (.agg #[(.string ⟨#[]⟩), (.string ⟨#[]⟩)]) 32 info88 rfl (by decide) (by omega) z88 (ok := fun _ => True) (okp := fun _ => True) (k88_mkM _ _ _ z88 ) (fun _ hk => hk) trivial (odt) (Nat.le_trans (Nat.mul_le_mul_right _ (odt : (l0.length : Int).toNat ≤ 8796093022208)) (by omega)) (Below.refl _ _) (Nat.le_refl _) ?_; intro v219 w4 ho5 hb hg_ hnew_; clear hg_ hnew_; (first | rw [← Ny218.out] at ho5 | (simp only [Int.reduceToNat] at ho5; rw [← Ny218.out] at ho5)); have HO220 := Aside0.mk (Kd.R_lower ho5 (below_size hB)); replace HB := Aside0.mk (below_step hB hb); clear hb ho5))
 go_loopg [4] k (fun kq v4 w' => ∃ (x3_1 : List (S88)) (x4_1 : Int), v4 = .int .i64 x4_1 ∧ Aside0 (laws_toDeclS.l0 kq l0 x3_1 x4_1 = some r) ∧ Aside0 (kq ≤ k) ∧ Aside0 (Kd.R k88 88 w' w.heap.size (fun _ => True) v219 x3_1) ∧ Aside0 (Below w.heap.size w w'))
 case atStart => exact ⟨(y218), (0), rG, H', ⟨Nat.le_refl _⟩, ⟨by (with_reducible repeat (first|apply rA|apply rN|apply rD)); exact HO220.out⟩, ⟨hB⟩⟩
 case round =>
  clear H'
  try clear c3; try clear c3b1; try clear c3b0; try clear c2; try clear c2b1; try clear c2b0
  obtain ⟨x3_1, x4_1, rfl, HA, HK1, HO_3, HB⟩ := hrel
  cases gk with
  | zero => exact absurd HA.out (by simp [laws_toDeclS.l0])
  | succ k1 =>
   have H := HA.out
   clear HA
   simp only [laws_toDeclS.l0] at H
   by_cases c6 : x4_1 < (l0.length : Int)
   ·rw [if_pos c6] at H
    have c6b0 : decide (x4_1 < (l0.length : Int)) = true := decide_eq_true c6
    clear c6
    obtain ⟨c7, H⟩ := if_som H
    have c7b0 : decide (0 ≤ x4_1) = true := decide_eq_true c7
    clear c7
    replace H := Option.bind_eq_some_iff.mp H
    obtain ⟨⟨t222, t223⟩, A80, H⟩ := H
    try dsimp only at H
    have A8 := Aside0.mk A80
    clear A80
    have p221 : 0 ≤ (x4_1 : Int) := odt
    have q221 : x4_1 < (l0.length : Int) := odt
    obtain ⟨ad221, e221, hx221_0, hx221_1⟩ := at_T84 HR0.out x4_1 p221 q221
    cases e221
    replace hx221_0 := pw_cell_below HB.out hx221_0
    replace hx221_1 := pw_cell_below HB.out hx221_1
    replace p221 := eq_true p221
    replace q221 := eq_true q221
    go_wp2_with (first | ((with_reducible refine gate_callee (f := 64) rfl ?_); refine goesL_ (some 20) rfl rfl Try.func64 (by kernel_rfl) rfl #[.agg #[.string ((rd_T84 l0 x4_1).f0), .string ((rd_T84 l0 x4_1).f1)]] rfl mA ?_; (with_reducible refine (laws_toDecl.calls ((rd_T84 l0 x4_1).f0) ((rd_T84 l0 x4_1).f1) t222 t223 _ A8.out).mono ?_); rintro e w9 ⟨rfl, hb⟩; refine ⟨_, rfl, ?_⟩; replace HO_3 := Aside0.mk (Kd.R_below (by (with_reducible repeat (first|apply rA|apply rN|apply rD)); exact HO_3.out) hb); replace HB := Aside0.mk (below_step hB hb); (try clear hb); (try clear hb2); (try clear hk); (try clear hi); refine halt_ ?_; intro q_ hq_))
    obtain ⟨rfl⟩ := hq_
    obtain ⟨c10, H⟩ := if_som H
    have c10b0 : decide (x4_1 < (x3_1.length : Int)) = true := decide_eq_true c10
    clear c10
    obtain ⟨y224, hy224⟩ : ∃ y_ : List (S88), y_ = (x3_1.set (x4_1 : Int).toNat (⟨t222, t223⟩ : S88)) := ⟨_, rfl⟩
    replace H : (laws_toDeclS.l0 k1 l0 y224 (wrap64 (x4_1 + 1))) = some r := by first | (rw [hy224]; with_reducible exact H) | (have H2_ := (Option.bind_some _ _).symm.trans H; rw [hy224]; with_reducible exact H2_) | (have H2_ := (Option.bind_some _ _).symm.trans H; with_reducible exact H2_) | with_reducible exact H | (rw [hy224]; exact H) | exact H
    have Ny224 := Aside0.mk hy224
    clear hy224
    have H' := Aside0.mk H
    clear H
    have p11 : 0 ≤ (x4_1 : Int) := odt
    have q11 : (x4_1 : Int) < ((x3_1.length : Int) : Int) := odt
    obtain ⟨go11, co11, eo11, gb11, gl11, cl11, HG11⟩ := Kd.R_form HO_3.out (by omega)
    (first | cases eo11 | (injection eo11 with ea_ en_ ec_; (first | subst ea_ | (injection ea_ with ea_; subst ea_)); subst ec_; clear en_))
    have GB11 := Aside0.mk gb11
    have GG11 := Aside0.mk HG11
    clear gb11 gl11 HG11
    obtain ⟨ce11, hcl11, hM11, hcc11, hfr11⟩ := Kd.R_elem HO_3.out z88 (x4_1 : Int) p11 q11
    obtain rfl := k88_openM hM11
    have hx11_0 : w9.cell? ⟨go11, (x4_1 : Int).toNat * 2, none⟩ = some (.string ((rd_T88 x3_1 x4_1).f0)) := hcc11 0 _ rfl
    have hx11_1 : w9.cell? ⟨go11, (x4_1 : Int).toNat * 2 + 1, none⟩ = some (.string ((rd_T88 x3_1 x4_1).f1)) := hcc11 1 _ rfl
    have hf11_0 : w9.frozen? ⟨go11, (x4_1 : Int).toNat * 2, none⟩ = false := hfr11 0
    have hf11_1 : w9.frozen? ⟨go11, (x4_1 : Int).toNat * 2 + 1, none⟩ = false := hfr11 1
    clear hcl11 hcc11 hfr11 hM11
    replace p11 := eq_true p11
    replace q11 := eq_true q11
    have HX12 := Aside0.mk (show Kd.R k88 88 w9 w.heap.size (fun _ => True) (.slice (some ⟨go11, 0, none⟩) x3_1.length co11) x3_1 from (by (with_reducible repeat (first|apply rA|apply rN|apply rD)); exact HO_3.out))
    obtain ⟨ce12, hcl12, hM12, hcc12, hfr12⟩ := Kd.R_elem HX12.out z88 (x4_1 : Int) (odt) (by have h_ : (x4_1 : Int) < ((x3_1.length : Int) : Int) := odt; first | exact h_ | (have e_ := (Kd.R_reads' HO_3.out).1; omega) | simpa using h_)
    obtain rfl := k88_openM hM12
    have HP12 := Kd.R_seg HX12.out (x4_1 : Int) (odt) (by have h_ : (x4_1 : Int) < ((x3_1.length : Int) : Int) := odt; first | exact h_ | (have e_ := (Kd.R_reads' HO_3.out).1; omega) | simpa using h_) (seg := [.string t222, .string t223]) (j := 0) hcl12 hcc12 (show 2 ≤ 2 from by decide) (x' := (⟨t222, t223⟩ : S88)) (k88_mkM _ _ _ (⟨t222, t223⟩ : S88) ) (fun _ hk => hk)
    have hx12_0 := hcc12 0 _ rfl
    (try simp only [show (k88).sz = 2 from rfl, Nat.mul_one, Nat.add_zero] at hx12_0)
    have hf12_0 := hfr12 0
    (try simp only [show (k88).sz = 2 from rfl, Nat.mul_one, Nat.add_zero] at hf12_0)
    have hx12_1 := hcc12 1 _ rfl
    (try simp only [show (k88).sz = 2 from rfl, Nat.mul_one, Nat.add_zero] at hx12_1)
    have hf12_1 := hfr12 1
    (try simp only [show (k88).sz = 2 from rfl, Nat.mul_one, Nat.add_zero] at hf12_1)
    clear hcl12 hcc12 hfr12 hM12
    go_wp2_with (first | ((with_reducible refine gate_store (t := 88) (p := 21) rfl ?_); refine store_event (t := 88) (p := 21) (v := ?vo_w13) (w1 := ((w9.setCell ⟨go11, (x4_1 : Int).toNat * 2, none⟩ (.string t222)).setCell ⟨go11, (x4_1 : Int).toNat * 2 + 1, none⟩ (.string t223))) ?hg ?ho ?hn ?hr ?_; (case ho => rfl); (case hg => rfl); (case hn => rfl); (case hr => first | (go_simp; done) | (go_simp; rfl)); intro w13 hw; have hg : w9.grownBy w13 (some go11) := (by rw [hw]; exact HP12.2); have hp_ : Kd.R k88 88 w13 w.heap.size (fun _ => True) (.slice (some ⟨go11, 0, none⟩) x3_1.length co11) y224 := (by rw [hw, Ny224.out]; exact HP12.1); clear HP12; replace HO_3 := Aside0.mk (hp_); replace HB := Aside0.mk ((by rw [hw]; exact below_set (below_set (HB.out) GB11.out) GB11.out : Below w.heap.size w w13)); clear hg hw hp_))
    go_roundg k1
    case measure => have := HK1.out; omega
    case rel => exact ⟨(y224), (wrap64 (x4_1 + 1)), rG, H', ⟨by have := HK1.out; omega⟩, ⟨by (with_reducible repeat (first|apply rA|apply rN|apply rD)); exact HO_3.out⟩, ⟨hB⟩⟩
   ·rw [if_neg c6] at H
    have c6b0 : decide (x4_1 < (l0.length : Int)) = false := decide_eq_false c6
    clear c6
    obtain rfl := Option.some.inj H
    go_wp2
    go_ret
    exact ⟨_, rE, by (with_reducible repeat (first|apply rA|apply rN|apply rD)); exact HO_3.out, hB⟩
/-! ### laws_toAttr: function 65 -/
def laws_toAttr.f (a0_0 : ByteArray) (a0_1 : ByteArray) (a0_2 : ByteArray) (a0_3 : ByteArray) : Option (ByteArray × ByteArray × ByteArray × ByteArray) := some (a0_0, a0_1, a0_2, a0_3)
theorem laws_toAttr.calls (a0_0 : ByteArray) (a0_1 : ByteArray) (a0_2 : ByteArray) (a0_3 : ByteArray) (r1 : ByteArray) (r2 : ByteArray) (r3 : ByteArray) (r4 : ByteArray) (w : World) (h : laws_toAttr.f a0_0 a0_1 a0_2 a0_3 = some (r1, r2, r3, r4)) :
  Calls Try.prog 65 #[.agg #[.string a0_0, .string a0_1, .string a0_2, .string a0_3]] w fun e w' => e = .returned (.agg #[.string r1, .string r2, .string r3, .string r4]) ∧ Below w.heap.size w w' := by
 have hu87 := Try.underlying87
 have hu90 := Try.underlying90
 have HB := Aside0.mk (Below.refl w.heap.size w)
 have H : (some (a0_0, a0_1, a0_2, a0_3)) = some (r1, r2, r3, r4) := h
 clear h
 simp only [Option.some.injEq, Prod.mk.injEq] at H
 obtain ⟨rfl, rfl, rfl, rfl⟩ := H
 go_enter Try.func65, Try.ntmps65
 go_wp2_with (first | ((with_reducible refine gate_dst (N := 1) rfl ?_); refine box_event ?hg (N := 1) ?hd (cs := #[.string a0_0, .string a0_1, .string a0_2, .string a0_3]) (t := 87) ?hr ?_; (case hd => rfl); (case hg => rfl); (case hr => first | (go_simp; done) | (go_simp; rfl)); intro gb225 hg w2 hbox hb; have BK225 := Aside0.mk (hbox); have GW225 := Aside0.mk ((by rw [hg]; exact (below_size hB) : w.heap.size ≤ gb225)); have GE225 := Aside0.mk ((by rw [hg]; exact (below_size hB) : w.heap.size ≤ gb225)); replace HB := Aside0.mk (below_step hB hb); clear hb hbox hg) | ((with_reducible refine gate_dst (N := 2) rfl ?_); refine box_event ?hg (N := 2) ?hd (cs := #[.string (⟨#[]⟩ : ByteArray), .string (⟨#[]⟩ : ByteArray), .string (⟨#[]⟩ : ByteArray), .string (⟨#[]⟩ : ByteArray)]) (t := 90) ?hr ?_; (case hd => rfl); (case hg => rfl); (case hr => first | (go_simp; done) | (go_simp; rfl)); intro gb226 hg w3 hbox hb; have BK226 := Aside0.mk (hbox); have GW226 := Aside0.mk ((by rw [hg]; exact (below_size hB) : w.heap.size ≤ gb226)); have GE226 := Aside0.mk ((by rw [hg]; exact (below_size hB) : w.heap.size ≤ gb226)); replace HB := Aside0.mk (below_step hB hb); have NB225_226 := Aside0.mk ((by rw [hg]; exact Nat.ne_of_lt (blk_lt (g := gb225) (by (with_reducible repeat (first | refine bN ?_ _|refine bD ?_|refine bA ?_ _)); exact BK225.out)) : gb225 ≠ gb226)); have NB226_225 := Aside0.mk ((by rw [hg]; exact Nat.ne_of_gt (blk_lt (g := gb225) (by (with_reducible repeat (first | refine bN ?_ _|refine bD ?_|refine bA ?_ _)); exact BK225.out)) : gb226 ≠ gb225)); replace BK225 := Aside0.mk (blk_below (g := gb225) (by (with_reducible repeat (first | refine bN ?_ _|refine bD ?_|refine bA ?_ _)); exact BK225.out) hb); clear hb hbox hg) | ((with_reducible refine gate_dst (N := 3) rfl ?_); refine box_event ?hg (N := 3) ?hd (cs := #[.string (⟨#[]⟩ : ByteArray), .string (⟨#[]⟩ : ByteArray), .string (⟨#[]⟩ : ByteArray), .string (⟨#[]⟩ : ByteArray)]) (t := 90) ?hr ?_; (case hd => rfl); (case hg => rfl); (case hr => first | (go_simp; done) | (go_simp; rfl)); intro gb227 hg w4 hbox hb; have BK227 := Aside0.mk (hbox); have GW227 := Aside0.mk ((by rw [hg]; exact (below_size hB) : w.heap.size ≤ gb227)); have GE227 := Aside0.mk ((by rw [hg]; exact (below_size hB) : w.heap.size ≤ gb227)); replace HB := Aside0.mk (below_step hB hb); have NB225_227 := Aside0.mk ((by rw [hg]; exact Nat.ne_of_lt (blk_lt (g := gb225) (by (with_reducible repeat (first | refine bN ?_ _|refine bD ?_|refine bA ?_ _)); exact BK225.out)) : gb225 ≠ gb227)); have NB227_225 := Aside0.mk ((by rw [hg]; exact Nat.ne_of_gt (blk_lt (g := gb225) (by (with_reducible repeat (first | refine bN ?_ _|refine bD ?_|refine bA ?_ _)); exact BK225.out)) : gb227 ≠ gb225)); replace BK225 := Aside0.mk (blk_below (g := gb225) (by (with_reducible repeat (first | refine bN ?_ _|refine bD ?_|refine bA ?_ _)); exact BK225.out) hb); have NB226_227 := Aside0.mk ((by rw [hg]; exact Nat.ne_of_lt (blk_lt (g := gb226) (by (with_reducible repeat (first | refine bN ?_ _|refine bD ?_|refine bA ?_ _)); exact BK226.out)) : gb226 ≠ gb227)); have NB227_226 := Aside0.mk ((by rw [hg]; exact Nat.ne_of_gt (blk_lt (g := gb226) (by (with_reducible repeat (first | refine bN ?_ _|refine bD ?_|refine bA ?_ _)); exact BK226.out)) : gb227 ≠ gb226)); replace BK226 := Aside0.mk (blk_below (g := gb226) (by (with_reducible repeat (first | refine bN ?_ _|refine bD ?_|refine bA ?_ _)); exact BK226.out) hb); clear hb hbox hg; have hnb5 := NB225_226.out; have hnc5 := NB226_225.out; have hnb6 := NB225_227.out; have hnc6 := NB227_225.out; obtain ⟨hcz7_0, hcz7_1, hcz7_2, hcz7_3⟩ := bc4 BK225.out; obtain ⟨hfz7_0, hfz7_1, hfz7_2, hfz7_3⟩ := bf4 BK225.out; have hnb8 := NB227_226.out; have hnc8 := NB226_227.out; obtain ⟨hcz9_0, hcz9_1, hcz9_2, hcz9_3⟩ := bc4 BK227.out; obtain ⟨hfz9_0, hfz9_1, hfz9_2, hfz9_3⟩ := bf4 BK227.out; obtain ⟨hcz10_0, hcz10_1, hcz10_2, hcz10_3⟩ := bc4 BK226.out; obtain ⟨hfz10_0, hfz10_1, hfz10_2, hfz10_3⟩ := bf4 BK226.out))
 refine bodyPost_ret (results_cell_row rfl _ _ gb226 90 #[.string a0_0, .string a0_1, .string a0_2, .string a0_3] (0, 0) _ rfl (by (with_reducible repeat (first | refine bN ?_ _|refine bD ?_|refine bA ?_ _)); exact put4 (by (with_reducible repeat (first | refine bN ?_ _|refine bD ?_|refine bA ?_ _)); exact pfa4 (hn := NB226_227.out) (by (with_reducible repeat (first | refine bN ?_ _|refine bD ?_|refine bA ?_ _)); exact BK226.out))) Try.underlying90 rfl (by kernel_rfl)) rfl ?_
 exact ⟨rE, hB⟩

/-! ### laws_toAttrS: function 39 -/
def laws_toAttrS.l0 : Nat → List (S87) → List (S90) → Int → Option ((List (S90)))
 | 0, _, _, _ => none
 | k + 1, x0, x3, x4 => if x4 < (x0.length : Int) then (if 0 ≤ x4 then ((laws_toAttr.f ((rd_T87 x0 x4).f0) ((rd_T87 x0 x4).f1) ((rd_T87 x0 x4).f2) ((rd_T87 x0 x4).f3)).bind fun bt232 => (if x4 < (x3.length : Int) then (laws_toAttrS.l0 k x0 (x3.set (x4 : Int).toNat (⟨bt232.1, bt232.2.1, bt232.2.2.1, bt232.2.2.2⟩ : S90)) (wrap64 (x4 + 1))) else (none))) else (none)) else (some x3)
def laws_toAttrS.f (k : Nat) (l0 : List (S87)) : Option ((List (S90))) := if 0 ≤ (l0.length : Int) then (if ((l0.length : Int) : Int).toNat ≤ 4398046511104 then (laws_toAttrS.l0 k l0 (List.replicate ((l0.length : Int) : Int).toNat z90) 0) else (none)) else (none)
theorem laws_toAttrS.mono_l : ∀ k, (∀ y0 y1 y2, LeO (laws_toAttrS.l0 k y0 y1 y2) (laws_toAttrS.l0 (k + 1) y0 y1 y2))
 | 0 => fun _ _ _ r h => by simp [laws_toAttrS.l0] at h
 | k + 1 => by
  have ih0 := laws_toAttrS.mono_l k
  ·intro y0 y1 y2
   unfold laws_toAttrS.l0
   repeat' first
   | (with_reducible exact ih0 _ _ _)
   | (with_reducible exact LeO.refl _)
   | (with_reducible exact LeO.none _)
   | (with_reducible refine LeO.ite ?_ ?_)
   | (with_reducible refine LeO.bind ?_ (fun _ => ?_))
   | exact ih0 _ _ _
   | exact LeO.none _
   | refine LeO.ite ?_ ?_
   | refine LeO.bind ?_ (fun _ => ?_)
theorem laws_toAttrS.mono : ∀ a0 k, LeO (laws_toAttrS.f k a0) (laws_toAttrS.f (k + 1) a0) := by
 intro a0 k
 have ih0 := laws_toAttrS.mono_l k
 unfold laws_toAttrS.f
 repeat' first
   | (with_reducible exact ih0 _ _ _)
   | (with_reducible exact LeO.refl _)
   | (with_reducible exact LeO.none _)
   | (with_reducible refine LeO.ite ?_ ?_)
   | (with_reducible refine LeO.bind ?_ (fun _ => ?_))
   | exact ih0 _ _ _
   | exact LeO.none _
   | refine LeO.ite ?_ ?_
   | refine LeO.bind ?_ (fun _ => ?_)
theorem laws_toAttrS.calls (k : Nat) (A0 : Option Addr) (c0 : Nat) (l0 : List (S87)) (r : List (S90)) (w : World) (hr0 : Kd.C k87 w A0 l0.length l0) (hc0 : l0.length ≤ c0) (h : laws_toAttrS.f k l0 = some r) :
  Calls Try.prog 39 #[.slice A0 l0.length c0] w fun e w' => ∃ v0_ : Value, e = .returned (v0_) ∧ Kd.R k90 90 w' w.heap.size (fun _ => True) v0_ r ∧ Below w.heap.size w w' := by
 have hu87 := Try.underlying87
 have hu90 := Try.underlying90
 have HR0 := Aside0.mk hr0
 have HC0 := Aside0.mk hc0
 clear hr0 hc0
 have HB := Aside0.mk (Below.refl w.heap.size w)
 have H : (if 0 ≤ (l0.length : Int) then (if ((l0.length : Int) : Int).toNat ≤ 4398046511104 then (laws_toAttrS.l0 k l0 (List.replicate ((l0.length : Int) : Int).toNat z90) 0) else (none)) else (none)) = some r := h
 clear h
 obtain ⟨c2, H⟩ := if_som H
 obtain ⟨c2b0, c2b1⟩ := fcT c2
 clear c2
 obtain ⟨c3, H⟩ := if_som H
 obtain ⟨c3b0, c3b1⟩ := fcT c3
 clear c3
 obtain ⟨y228, hy228⟩ : ∃ y_ : List (S90), y_ = (List.replicate ((l0.length : Int) : Int).toNat z90) := ⟨_, rfl⟩
 replace H : (laws_toAttrS.l0 k l0 y228 0) = some r := by first | (rw [hy228]; with_reducible exact H) | (have H2_ := (Option.bind_some _ _).symm.trans H; rw [hy228]; with_reducible exact H2_) | (have H2_ := (Option.bind_some _ _).symm.trans H; with_reducible exact H2_) | with_reducible exact H | (rw [hy228]; exact H) | exact H
 have Ny228 := Aside0.mk hy228
 clear hy228
 have H' := Aside0.mk H
 clear H
 go_enter Try.func39, Try.ntmps39
 go_wp2_with (first | ((with_reducible refine gate_dst (N := 7) rfl ?_); refine Kd.R_make k90 _ 90 rfl (N := 7) rfl 31 _ _ rfl (l0.length : Int) rfl rfl Try.underlying31 (.agg #[(.string ⟨#[]⟩), (.string ⟨#[]⟩), (.string ⟨#[]⟩), (.string ⟨#[]⟩)]) 64 info90 rfl (by decide) (by omega) z90 (ok := fun _ => True) (okp := fun _ => True) (k90_mkM _ _ _ z90 ) (fun _ hk => hk) trivial (odt) (Nat.le_trans (Nat.mul_le_mul_right _ (odt : (l0.length : Int).toNat ≤ 4398046511104)) (by omega)) (Below.refl _ _) (Nat.le_refl _) ?_; intro v229 w4 ho5 hb hg_ hnew_; clear hg_ hnew_; (first | rw [← Ny228.out] at ho5 | (simp only [Int.reduceToNat] at ho5; rw [← Ny228.out] at ho5)); have HO230 := Aside0.mk (Kd.R_lower ho5 (below_size hB)); replace HB := Aside0.mk (below_step hB hb); clear hb ho5))
 go_loopg [4] k (fun kq v4 w' => ∃ (x3_1 : List (S90)) (x4_1 : Int), v4 = .int .i64 x4_1 ∧ Aside0 (laws_toAttrS.l0 kq l0 x3_1 x4_1 = some r) ∧ Aside0 (kq ≤ k) ∧ Aside0 (Kd.R k90 90 w' w.heap.size (fun _ => True) v229 x3_1) ∧ Aside0 (Below w.heap.size w w'))
 case atStart => exact ⟨(y228), (0), rG, H', ⟨Nat.le_refl _⟩, ⟨by (with_reducible repeat (first|apply rA|apply rN|apply rD)); exact HO230.out⟩, ⟨hB⟩⟩
 case round =>
  clear H'
  try clear c3; try clear c3b1; try clear c3b0; try clear c2; try clear c2b1; try clear c2b0
  obtain ⟨x3_1, x4_1, rfl, HA, HK1, HO_3, HB⟩ := hrel
  cases gk with
  | zero => exact absurd HA.out (by simp [laws_toAttrS.l0])
  | succ k1 =>
   have H := HA.out
   clear HA
   simp only [laws_toAttrS.l0] at H
   by_cases c6 : x4_1 < (l0.length : Int)
   ·rw [if_pos c6] at H
    have c6b0 : decide (x4_1 < (l0.length : Int)) = true := decide_eq_true c6
    clear c6
    obtain ⟨c7, H⟩ := if_som H
    have c7b0 : decide (0 ≤ x4_1) = true := decide_eq_true c7
    clear c7
    replace H := Option.bind_eq_some_iff.mp H
    obtain ⟨⟨t232, t233, t234, t235⟩, A80, H⟩ := H
    try dsimp only at H
    have A8 := Aside0.mk A80
    clear A80
    have p231 : 0 ≤ (x4_1 : Int) := odt
    have q231 : x4_1 < (l0.length : Int) := odt
    obtain ⟨ad231, e231, hx231_0, hx231_1, hx231_2, hx231_3⟩ := at_T87 HR0.out x4_1 p231 q231
    cases e231
    replace hx231_0 := pw_cell_below HB.out hx231_0
    replace hx231_1 := pw_cell_below HB.out hx231_1
    replace hx231_2 := pw_cell_below HB.out hx231_2
    replace hx231_3 := pw_cell_below HB.out hx231_3
    replace p231 := eq_true p231
    replace q231 := eq_true q231
    go_wp2_with (first | ((with_reducible refine gate_callee (f := 65) rfl ?_); refine goesL_ (some 20) rfl rfl Try.func65 (by kernel_rfl) rfl #[.agg #[.string ((rd_T87 l0 x4_1).f0), .string ((rd_T87 l0 x4_1).f1), .string ((rd_T87 l0 x4_1).f2), .string ((rd_T87 l0 x4_1).f3)]] rfl mA ?_; (with_reducible refine (laws_toAttr.calls ((rd_T87 l0 x4_1).f0) ((rd_T87 l0 x4_1).f1) ((rd_T87 l0 x4_1).f2) ((rd_T87 l0 x4_1).f3) t232 t233 t234 t235 _ A8.out).mono ?_); rintro e w9 ⟨rfl, hb⟩; refine ⟨_, rfl, ?_⟩; replace HO_3 := Aside0.mk (Kd.R_below (by (with_reducible repeat (first|apply rA|apply rN|apply rD)); exact HO_3.out) hb); replace HB := Aside0.mk (below_step hB hb); (try clear hb); (try clear hb2); (try clear hk); (try clear hi); refine halt_ ?_; intro q_ hq_))
    obtain ⟨rfl⟩ := hq_
    obtain ⟨c10, H⟩ := if_som H
    have c10b0 : decide (x4_1 < (x3_1.length : Int)) = true := decide_eq_true c10
    clear c10
    obtain ⟨y236, hy236⟩ : ∃ y_ : List (S90), y_ = (x3_1.set (x4_1 : Int).toNat (⟨t232, t233, t234, t235⟩ : S90)) := ⟨_, rfl⟩
    replace H : (laws_toAttrS.l0 k1 l0 y236 (wrap64 (x4_1 + 1))) = some r := by first | (rw [hy236]; with_reducible exact H) | (have H2_ := (Option.bind_some _ _).symm.trans H; rw [hy236]; with_reducible exact H2_) | (have H2_ := (Option.bind_some _ _).symm.trans H; with_reducible exact H2_) | with_reducible exact H | (rw [hy236]; exact H) | exact H
    have Ny236 := Aside0.mk hy236
    clear hy236
    have H' := Aside0.mk H
    clear H
    have p11 : 0 ≤ (x4_1 : Int) := odt
    have q11 : (x4_1 : Int) < ((x3_1.length : Int) : Int) := odt
    obtain ⟨go11, co11, eo11, gb11, gl11, cl11, HG11⟩ := Kd.R_form HO_3.out (by omega)
    (first | cases eo11 | (injection eo11 with ea_ en_ ec_; (first | subst ea_ | (injection ea_ with ea_; subst ea_)); subst ec_; clear en_))
    have GB11 := Aside0.mk gb11
    have GG11 := Aside0.mk HG11
    clear gb11 gl11 HG11
    obtain ⟨ce11, hcl11, hM11, hcc11, hfr11⟩ := Kd.R_elem HO_3.out z90 (x4_1 : Int) p11 q11
    obtain rfl := k90_openM hM11
    have hx11_0 : w9.cell? ⟨go11, (x4_1 : Int).toNat * 4, none⟩ = some (.string ((rd_T90 x3_1 x4_1).f0)) := hcc11 0 _ rfl
    have hx11_1 : w9.cell? ⟨go11, (x4_1 : Int).toNat * 4 + 1, none⟩ = some (.string ((rd_T90 x3_1 x4_1).f1)) := hcc11 1 _ rfl
    have hx11_2 : w9.cell? ⟨go11, (x4_1 : Int).toNat * 4 + 2, none⟩ = some (.string ((rd_T90 x3_1 x4_1).f2)) := hcc11 2 _ rfl
    have hx11_3 : w9.cell? ⟨go11, (x4_1 : Int).toNat * 4 + 3, none⟩ = some (.string ((rd_T90 x3_1 x4_1).f3)) := hcc11 3 _ rfl
    have hf11_0 : w9.frozen? ⟨go11, (x4_1 : Int).toNat * 4, none⟩ = false := hfr11 0
    have hf11_1 : w9.frozen? ⟨go11, (x4_1 : Int).toNat * 4 + 1, none⟩ = false := hfr11 1
    have hf11_2 : w9.frozen? ⟨go11, (x4_1 : Int).toNat * 4 + 2, none⟩ = false := hfr11 2
    have hf11_3 : w9.frozen? ⟨go11, (x4_1 : Int).toNat * 4 + 3, none⟩ = false := hfr11 3
    clear hcl11 hcc11 hfr11 hM11
    replace p11 := eq_true p11
    replace q11 := eq_true q11
    have HX12 := Aside0.mk (show Kd.R k90 90 w9 w.heap.size (fun _ => True) (.slice (some ⟨go11, 0, none⟩) x3_1.length co11) x3_1 from (by (with_reducible repeat (first|apply rA|apply rN|apply rD)); exact HO_3.out))
    obtain ⟨ce12, hcl12, hM12, hcc12, hfr12⟩ := Kd.R_elem HX12.out z90 (x4_1 : Int) (odt) (by have h_ : (x4_1 : Int) < ((x3_1.length : Int) : Int) := odt; first | exact h_ | (have e_ := (Kd.R_reads' HO_3.out).1; omega) | simpa using h_)
    obtain rfl := k90_openM hM12
    have HP12 := Kd.R_seg HX12.out (x4_1 : Int) (odt) (by have h_ : (x4_1 : Int) < ((x3_1.length : Int) : Int) := odt; first | exact h_ | (have e_ := (Kd.R_reads' HO_3.out).1; omega) | simpa using h_) (seg := [.string t232, .string t233, .string t234, .string t235]) (j := 0) hcl12 hcc12 (show 4 ≤ 4 from by decide) (x' := (⟨t232, t233, t234, t235⟩ : S90)) (k90_mkM _ _ _ (⟨t232, t233, t234, t235⟩ : S90) ) (fun _ hk => hk)
    have hx12_0 := hcc12 0 _ rfl
    (try simp only [show (k90).sz = 4 from rfl, Nat.mul_one, Nat.add_zero] at hx12_0)
    have hf12_0 := hfr12 0
    (try simp only [show (k90).sz = 4 from rfl, Nat.mul_one, Nat.add_zero] at hf12_0)
    have hx12_1 := hcc12 1 _ rfl
    (try simp only [show (k90).sz = 4 from rfl, Nat.mul_one, Nat.add_zero] at hx12_1)
    have hf12_1 := hfr12 1
    (try simp only [show (k90).sz = 4 from rfl, Nat.mul_one, Nat.add_zero] at hf12_1)
    have hx12_2 := hcc12 2 _ rfl
    (try simp only [show (k90).sz = 4 from rfl, Nat.mul_one, Nat.add_zero] at hx12_2)
    have hf12_2 := hfr12 2
    (try simp only [show (k90).sz = 4 from rfl, Nat.mul_one, Nat.add_zero] at hf12_2)
    have hx12_3 := hcc12 3 _ rfl
    (try simp only [show (k90).sz = 4 from rfl, Nat.mul_one, Nat.add_zero] at hx12_3)
    have hf12_3 := hfr12 3
    (try simp only [show (k90).sz = 4 from rfl, Nat.mul_one, Nat.add_zero] at hf12_3)
    clear hcl12 hcc12 hfr12 hM12
    go_wp2_with (first | ((with_reducible refine gate_store (t := 90) (p := 21) rfl ?_); refine store_event (t := 90) (p := 21) (v := ?vo_w13) (w1 := ((((w9.setCell ⟨go11, (x4_1 : Int).toNat * 4, none⟩ (.string t232)).setCell ⟨go11, (x4_1 : Int).toNat * 4 + 1, none⟩ (.string t233)).setCell ⟨go11, (x4_1 : Int).toNat * 4 + 2, none⟩ (.string t234)).setCell ⟨go11, (x4_1 : Int).toNat * 4 + 3, none⟩ (.string t235))) ?hg ?ho ?hn ?hr ?_; (case ho => rfl); (case hg => rfl); (case hn => rfl); (case hr => first | (go_simp; done) | (go_simp; rfl)); intro w13 hw; have hg : w9.grownBy w13 (some go11) := (by rw [hw]; exact HP12.2); have hp_ : Kd.R k90 90 w13 w.heap.size (fun _ => True) (.slice (some ⟨go11, 0, none⟩) x3_1.length co11) y236 := (by rw [hw, Ny236.out]; exact HP12.1); clear HP12; replace HO_3 := Aside0.mk (hp_); replace HB := Aside0.mk ((by rw [hw]; exact below_set (below_set (below_set (below_set (HB.out) GB11.out) GB11.out) GB11.out) GB11.out : Below w.heap.size w w13)); clear hg hw hp_))
    go_roundg k1
    case measure => have := HK1.out; omega
    case rel => exact ⟨(y236), (wrap64 (x4_1 + 1)), rG, H', ⟨by have := HK1.out; omega⟩, ⟨by (with_reducible repeat (first|apply rA|apply rN|apply rD)); exact HO_3.out⟩, ⟨hB⟩⟩
   ·rw [if_neg c6] at H
    have c6b0 : decide (x4_1 < (l0.length : Int)) = false := decide_eq_false c6
    clear c6
    obtain rfl := Option.some.inj H
    go_wp2
    go_ret
    exact ⟨_, rE, by (with_reducible repeat (first|apply rA|apply rN|apply rD)); exact HO_3.out, hB⟩
-- laws_toNode: beside laws_toNodeS

end Go.Proofs.Ytdbinpeglamnnaa.PX
