-- Written by the session's program hprint.py, over the kit's print program. Lean checks it.
import Derived.Test.YtdbinpeglamnnaaPXx0
import Derived.Test.YtdbinpeglamnnaaPXx3
import Derived.Test.YtdbinpeglamnnaaPXx4
namespace Go.Proofs.Ytdbinpeglamnnaa.PX
open Go.RowKit Go.Proofs.YtdbinpeglamnnaaW.PrintWords Go.Proofs.YtdbinpeglamnnaaW.PrintLast Go.Proofs.YtdbinpeglamnnaaW.PrintMore
attribute [local go_sem] max2_int min2_int max_two min_two max_three min_three max_four min_four   -- for this text's walks alone
set_option linter.unusedVariables false
set_option linter.unusedSimpArgs false
set_option maxHeartbeats 8000000
set_option maxRecDepth 100000

/-! ### impl_Merge: function 20 -/
mutual
def impl_Merge.l0 : Nat → List (S34) → List (S34) → Int → Int → Option ((List (S34)))
 | 0, _, _, _, _ => none
 | k + 1, x3, x7, x8, x9 => if x9 < x8 then (if 0 ≤ x9 then (if x9 < (x7.length : Int) then (if ((rd_T34 x7 x9).f0) = 2 then (impl_Merge.j1 k x3 (x3.length : Int) x7 x8 x9 (((rd_T34 x7 x9).f7).toList == ([] : List UInt8)) ((rd_T34 x7 x9).f0) ((rd_T34 x7 x9).f1) ((rd_T34 x7 x9).f2) ((rd_T34 x7 x9).f3) ((rd_T34 x7 x9).f4) ((rd_T34 x7 x9).f5) ((rd_T34 x7 x9).f6) ((rd_T34 x7 x9).f7)) else (impl_Merge.j1 k x3 (x3.length : Int) x7 x8 x9 false ((rd_T34 x7 x9).f0) ((rd_T34 x7 x9).f1) ((rd_T34 x7 x9).f2) ((rd_T34 x7 x9).f3) ((rd_T34 x7 x9).f4) ((rd_T34 x7 x9).f5) ((rd_T34 x7 x9).f6) ((rd_T34 x7 x9).f7))) else (none)) else (none)) else (some x3)
def impl_Merge.j1 : Nat → List (S34) → Int → List (S34) → Int → Int → Bool → Int → ByteArray → ByteArray → ByteArray → List (S88) → List (S90) → List (S34) → ByteArray → Option ((List (S34)))
 | 0, _, _, _, _, _, _, _, _, _, _, _, _, _, _ => none
 | k + 1, x3, x6, x7, x8, x9, x20, x300000, x300001, x300002, x300003, x300004, x300005, x300006, x300007 => if x20 = true then (impl_Merge.l0 k x3 x7 x8 (wrap64 (x9 + 1))) else (if x300000 = 2 then (if x6 > 0 then (if 0 ≤ (wrap64 (x6 - 1)) then (if (wrap64 (x6 - 1)) < (x3.length : Int) then (if ((rd_T34 x3 (wrap64 (x6 - 1))).f0) = 2 then (if ((rd_T34 x3 (wrap64 (x6 - 1))).f7).size + x300007.size ≤ 9223372036854775807 then (impl_Merge.l0 k (x3.set ((wrap64 (x6 - 1)) : Int).toNat (⟨(rd_T34 x3 (wrap64 (x6 - 1))).f0, (rd_T34 x3 (wrap64 (x6 - 1))).f1, (rd_T34 x3 (wrap64 (x6 - 1))).f2, (rd_T34 x3 (wrap64 (x6 - 1))).f3, (rd_T34 x3 (wrap64 (x6 - 1))).f4, (rd_T34 x3 (wrap64 (x6 - 1))).f5, (rd_T34 x3 (wrap64 (x6 - 1))).f6, ((rd_T34 x3 (wrap64 (x6 - 1))).f7) ++ x300007⟩ : S34)) x7 x8 (wrap64 (x9 + 1))) else (none)) else ((impl_cloneNode.f k x300000 x300001 x300002 x300003 x300004 x300005 x300006 x300007).bind fun bt303 => (if x3.length < 977343669134 then (impl_Merge.l0 k (x3 ++ [(⟨bt303.1, bt303.2.1, bt303.2.2.1, bt303.2.2.2.1, bt303.2.2.2.2.1, bt303.2.2.2.2.2.1, bt303.2.2.2.2.2.2.1, bt303.2.2.2.2.2.2.2⟩ : S34)]) x7 x8 (wrap64 (x9 + 1))) else (none)))) else (none)) else (none)) else ((impl_cloneNode.f k x300000 x300001 x300002 x300003 x300004 x300005 x300006 x300007).bind fun bt320 => (if x3.length < 977343669134 then (impl_Merge.l0 k (x3 ++ [(⟨bt320.1, bt320.2.1, bt320.2.2.1, bt320.2.2.2.1, bt320.2.2.2.2.1, bt320.2.2.2.2.2.1, bt320.2.2.2.2.2.2.1, bt320.2.2.2.2.2.2.2⟩ : S34)]) x7 x8 (wrap64 (x9 + 1))) else (none)))) else ((impl_cloneNode.f k x300000 x300001 x300002 x300003 x300004 x300005 x300006 x300007).bind fun bt337 => (if x3.length < 977343669134 then (impl_Merge.l0 k (x3 ++ [(⟨bt337.1, bt337.2.1, bt337.2.2.1, bt337.2.2.2.1, bt337.2.2.2.2.1, bt337.2.2.2.2.2.1, bt337.2.2.2.2.2.2.1, bt337.2.2.2.2.2.2.2⟩ : S34)]) x7 x8 (wrap64 (x9 + 1))) else (none))))
end
def impl_Merge.f (k : Nat) (l0 : List (S34)) : Option ((List (S34))) := impl_Merge.l0 k ([] : List (S34)) l0 (l0.length : Int) 0
def impl_Merge.T9 : Bool × List (List Nat × List Nat) := (true, [([], []), ([], []), ([1], [1]), ([0, 2], [0, 2]), ([3], [3]), ([4], [4]), ([], []), ([6], [6]), ([5, 7], [5, 7]), ([0, 2, 0, 1, 2, 3, 4, 5, 6, 7, 8], [0, 2]), ([9, 0, 1, 2, 3, 4, 5, 6, 7, 8], [9]), ([10, 8, 0, 1, 2, 3, 4, 5, 6, 7, 8], [8, 10])])
def impl_Merge.B9 : List Nat := [0, 0, 2, 7, 15, 31, 0, 64, 255, 511, 1023, 2047]
theorem impl_Merge.tab9 : rtab .any (opsOf Try.f20 9) = impl_Merge.T9 := by kernel_rfl
theorem impl_Merge.bits9 : waitsOk impl_Merge.T9.2 impl_Merge.B9 = true := by kernel_rfl
theorem impl_Merge.callsD (k : Nat) (A0 : Option Addr) (c0 : Nat) (l0 : List (S34)) (r : List (S34)) (w : World) (hr0 : Kd.C k34 w A0 l0.length l0) (hc0 : l0.length ≤ c0) (h : impl_Merge.f k l0 = some r) :
  Calls Try.prog 20 #[.slice A0 l0.length c0] w fun e w' => ∃ v0_ : Value, e = .returned (v0_) ∧ Kd.S kD 34 w' w.heap.size (fun _ => True) v0_ r ∧ Below w.heap.size w w' := by
 have hu34 := Try.underlying34
 have HR0 := Aside0.mk hr0
 have HC0 := Aside0.mk hc0
 clear hr0 hc0
 have HB := Aside0.mk (Below.refl w.heap.size w)
 have H : (impl_Merge.l0 k ([] : List (S34)) l0 (l0.length : Int) 0) = some r := h
 clear h
 have H' := Aside0.mk H
 clear H
 go_enter Try.func20, Try.ntmps20
 go_wp2
 go_loopg [3, 9] k (fun kq v3 v9 w' => ∃ (x3_1 : List (S34)) (x9_1 : Int), v9 = .int .i64 x9_1 ∧ Aside0 (impl_Merge.l0 kq x3_1 l0 (l0.length : Int) x9_1 = some r) ∧ Aside0 (kq ≤ k) ∧ Aside0 (Kd.S kD 34 w' w.heap.size (fun _ => True) v3 x3_1) ∧ Aside0 (Below w.heap.size w w'))
 case atStart => exact ⟨(([] : List (S34))), (0), rG, H', ⟨Nat.le_refl _⟩, ⟨by first | exact Kd.S_nil _ _ _ _ _ | exact Kd.N_nil _ _ _ _ _ | exact Kd.V_nil _ _ _ _ _ | exact Kd.Q_nil _ _ _ _ _ | exact Kd.S_nil _ _ _ _ _⟩, ⟨hB⟩⟩
 case round =>
  clear H'
  obtain ⟨x3_1, x9_1, rfl, HA, HK1, HO_3, HB⟩ := hrel
  cases gk with
  | zero => exact absurd HA.out (by simp [impl_Merge.l0])
  | succ k1 =>
   have H := HA.out
   clear HA
   simp only [impl_Merge.l0] at H
   by_cases c2 : x9_1 < (l0.length : Int)
   ·rw [if_pos c2] at H
    have c2b0 : decide (x9_1 < (l0.length : Int)) = true := decide_eq_true c2
    clear c2
    obtain ⟨c3, H⟩ := if_som H
    have c3b0 : decide (0 ≤ x9_1) = true := decide_eq_true c3
    clear c3
    obtain ⟨c4, H⟩ := if_som H
    have c4b0 : decide (x9_1 < (l0.length : Int)) = true := decide_eq_true c4
    clear c4
    have HC5 := Aside0.mk H
    clear H
    have p298 : 0 ≤ (x9_1 : Int) := odt
    have q298 : x9_1 < (l0.length : Int) := odt
    obtain ⟨ad298, A298_4, c298_4, A298_5, c298_5, A298_6, c298_6, e298, hx298_0, hx298_1, hx298_2, hx298_3, hx298_4, hx298_5, hx298_6, hx298_7, hl298_4, hi298_4, hl298_5, hi298_5, hl298_6, hi298_6⟩ := at_T34 HR0.out x9_1 p298 q298
    cases e298
    replace hx298_0 := pw_cell_below HB.out hx298_0
    replace hx298_1 := pw_cell_below HB.out hx298_1
    replace hx298_2 := pw_cell_below HB.out hx298_2
    replace hx298_3 := pw_cell_below HB.out hx298_3
    replace hx298_4 := pw_cell_below HB.out hx298_4
    replace hx298_5 := pw_cell_below HB.out hx298_5
    replace hx298_6 := pw_cell_below HB.out hx298_6
    replace hx298_7 := pw_cell_below HB.out hx298_7
    have HR298_4 := Aside0.mk hi298_4
    have HC298_4 := Aside0.mk hl298_4
    clear hi298_4 hl298_4
    have HR298_5 := Aside0.mk hi298_5
    have HC298_5 := Aside0.mk hl298_5
    clear hi298_5 hl298_5
    have HR298_6 := Aside0.mk hi298_6
    have HC298_6 := Aside0.mk hl298_6
    clear hi298_6 hl298_6
    replace p298 := eq_true p298
    replace q298 := eq_true q298
    go_upto_region 7 with (first | ((with_reducible refine gate_dst (N := 5) rfl ?_); refine box_event ?hg (N := 5) ?hd (cs := #[.int .i64 0, .string (⟨#[]⟩ : ByteArray), .string (⟨#[]⟩ : ByteArray), .string (⟨#[]⟩ : ByteArray), .slice none 0 0, .slice none 0 0, .slice none 0 0, .string (⟨#[]⟩ : ByteArray)]) (t := 34) ?hr ?_; (case hd => rfl); (case hg => rfl); (case hr => first | (go_simp; done) | (go_simp; rfl)); intro gb299 hg w6 hbox hb; replace HO_3 := Aside0.mk (Kd.S_below (Kd.S_elderB (by (with_reducible repeat (first|apply rA|apply rN|apply rD|apply Kd.S_alloc|apply Kd.S_drewN|apply Kd.S_drew)); exact HO_3.out) gb299 (Nat.le_of_eq hg.symm)) hb); have BK299 := Aside0.mk (hbox); have GW299 := Aside0.mk ((by rw [hg]; exact (below_size hB) : w.heap.size ≤ gb299)); have GE299 := Aside0.mk ((by rw [hg]; exact (below_size hB) : w.heap.size ≤ gb299)); replace HB := Aside0.mk (below_step hB hb); clear hb hbox hg; obtain ⟨hcz7_0, hcz7_1, hcz7_2, hcz7_3, hcz7_4, hcz7_5, hcz7_6, hcz7_7⟩ := bc8 BK299.out; obtain ⟨hfz7_0, hfz7_1, hfz7_2, hfz7_3, hfz7_4, hfz7_5, hfz7_6, hfz7_7⟩ := bf8 BK299.out; obtain ⟨Ao8, co8, eo8⟩ := Kd.S_slice HO_3.out; subst eo8))
    (try simp only [Act.put, sT, sZ, sS])
    go_cut [20] (fun v20 wc => ∃ (kq : Nat) (x20_4 : Bool), v20 = .bool x20_4 ∧ Aside0 (impl_Merge.j1 kq x3_1 (x3_1.length : Int) l0 (l0.length : Int) x9_1 x20_4 ((rd_T34 l0 x9_1).f0) ((rd_T34 l0 x9_1).f1) ((rd_T34 l0 x9_1).f2) ((rd_T34 l0 x9_1).f3) ((rd_T34 l0 x9_1).f4) ((rd_T34 l0 x9_1).f5) ((rd_T34 l0 x9_1).f6) ((rd_T34 l0 x9_1).f7) = some r) ∧ Aside0 (kq ≤ k1) ∧ Aside0 (Kd.S kD 34 wc w.heap.size (fun k_ => k_ ≠ gb299) (.slice Ao8 x3_1.length co8) x3_1) ∧ Aside0 (wc.heap[gb299]? = some (.cells #[.int .i64 ((rd_T34 l0 x9_1).f0), .string ((rd_T34 l0 x9_1).f1), .string ((rd_T34 l0 x9_1).f2), .string ((rd_T34 l0 x9_1).f3), (.slice A298_4 ((rd_T34 l0 x9_1).f4).length c298_4), (.slice A298_5 ((rd_T34 l0 x9_1).f5).length c298_5), (.slice A298_6 ((rd_T34 l0 x9_1).f6).length c298_6), .string ((rd_T34 l0 x9_1).f7)] 34 (0, 0))) ∧ Aside0 (Below w.heap.size w wc))
    case first =>
     have H := HC5.out
     clear HC5
     by_cases c9 : ((rd_T34 l0 x9_1).f0) = 2
     ·rw [if_pos c9] at H
      obtain ⟨c9b0, c9b1⟩ := eqT c9
      clear c9
      (first | rw [c9b0] | (simp only [i64_w, i32_w]; rw [c9b0]) | skip)
      have H' := Aside0.mk H
      clear H
      obtain ⟨hcz10_0, hcz10_1, hcz10_2, hcz10_3, hcz10_4, hcz10_5, hcz10_6, hcz10_7⟩ := bc8 BK299.out
      obtain ⟨hfz10_0, hfz10_1, hfz10_2, hfz10_3, hfz10_4, hfz10_5, hfz10_6, hfz10_7⟩ := bf8 BK299.out
      go_wp2
      go_meet
      case rel => exact ⟨_, ((((rd_T34 l0 x9_1).f7).toList == ([] : List UInt8))), rG, H', ⟨by have := HK1.out; first | omega | exact Nat.le_refl _⟩, ⟨by (with_reducible repeat (first|apply rA|apply rN|apply rD|apply Kd.S_alloc|apply Kd.S_drewN|apply Kd.S_drew)); exact Kd.S_mono (Kd.S_far (p := ⟨gb299, 7, none⟩) (Kd.S_far (p := ⟨gb299, 6, none⟩) (Kd.S_far (p := ⟨gb299, 5, none⟩) (Kd.S_far (p := ⟨gb299, 4, none⟩) (Kd.S_far (p := ⟨gb299, 3, none⟩) (Kd.S_far (p := ⟨gb299, 2, none⟩) (Kd.S_far (p := ⟨gb299, 1, none⟩) (Kd.S_far (p := ⟨gb299, 0, none⟩) (Kd.S_mono HO_3.out (fun k_ hk => (⟨hk, hk.2⟩ : _ ∧ k_ ≠ gb299))) (fun _ hk => hk.2) (.int .i64 ((rd_T34 l0 x9_1).f0))) (fun _ hk => hk.2) (.string ((rd_T34 l0 x9_1).f1))) (fun _ hk => hk.2) (.string ((rd_T34 l0 x9_1).f2))) (fun _ hk => hk.2) (.string ((rd_T34 l0 x9_1).f3))) (fun _ hk => hk.2) (.slice A298_4 ((rd_T34 l0 x9_1).f4).length c298_4)) (fun _ hk => hk.2) (.slice A298_5 ((rd_T34 l0 x9_1).f5).length c298_5)) (fun _ hk => hk.2) (.slice A298_6 ((rd_T34 l0 x9_1).f6).length c298_6)) (fun _ hk => hk.2) (.string ((rd_T34 l0 x9_1).f7))) (fun _ hk => hk.1.2)⟩, ⟨by (with_reducible repeat (first | refine bN ?_ _|refine bD ?_|refine bA ?_ _)); exact put8 (by (with_reducible repeat (first | refine bN ?_ _|refine bD ?_|refine bA ?_ _)); exact BK299.out)⟩, ⟨hB⟩⟩
     ·rw [if_neg c9] at H
      obtain ⟨c9b0, c9b1⟩ := eqF c9
      (first | rw [c9b0] | (simp only [i64_w, i32_w]; rw [c9b0]) | skip)
      have H' := Aside0.mk H
      clear H
      obtain ⟨hcz11_0, hcz11_1, hcz11_2, hcz11_3, hcz11_4, hcz11_5, hcz11_6, hcz11_7⟩ := bc8 BK299.out
      obtain ⟨hfz11_0, hfz11_1, hfz11_2, hfz11_3, hfz11_4, hfz11_5, hfz11_6, hfz11_7⟩ := bf8 BK299.out
      go_wp2
      go_meet
      case rel => exact ⟨_, (false), rG, H', ⟨by have := HK1.out; first | omega | exact Nat.le_refl _⟩, ⟨by (with_reducible repeat (first|apply rA|apply rN|apply rD|apply Kd.S_alloc|apply Kd.S_drewN|apply Kd.S_drew)); exact Kd.S_mono (Kd.S_far (p := ⟨gb299, 7, none⟩) (Kd.S_far (p := ⟨gb299, 6, none⟩) (Kd.S_far (p := ⟨gb299, 5, none⟩) (Kd.S_far (p := ⟨gb299, 4, none⟩) (Kd.S_far (p := ⟨gb299, 3, none⟩) (Kd.S_far (p := ⟨gb299, 2, none⟩) (Kd.S_far (p := ⟨gb299, 1, none⟩) (Kd.S_far (p := ⟨gb299, 0, none⟩) (Kd.S_mono HO_3.out (fun k_ hk => (⟨hk, hk.2⟩ : _ ∧ k_ ≠ gb299))) (fun _ hk => hk.2) (.int .i64 ((rd_T34 l0 x9_1).f0))) (fun _ hk => hk.2) (.string ((rd_T34 l0 x9_1).f1))) (fun _ hk => hk.2) (.string ((rd_T34 l0 x9_1).f2))) (fun _ hk => hk.2) (.string ((rd_T34 l0 x9_1).f3))) (fun _ hk => hk.2) (.slice A298_4 ((rd_T34 l0 x9_1).f4).length c298_4)) (fun _ hk => hk.2) (.slice A298_5 ((rd_T34 l0 x9_1).f5).length c298_5)) (fun _ hk => hk.2) (.slice A298_6 ((rd_T34 l0 x9_1).f6).length c298_6)) (fun _ hk => hk.2) (.string ((rd_T34 l0 x9_1).f7))) (fun _ hk => hk.1.2)⟩, ⟨by (with_reducible repeat (first | refine bN ?_ _|refine bD ?_|refine bA ?_ _)); exact put8 (by (with_reducible repeat (first | refine bN ?_ _|refine bD ?_|refine bA ?_ _)); exact BK299.out)⟩, ⟨hB⟩⟩
    case rest =>
     clear HC5
     try clear c4; try clear c4b0; try clear c3; try clear c3b0; try clear c2; try clear c2b0
     try clear hcz7_0 hcz7_1 hcz7_2 hcz7_3 hcz7_4 hcz7_5 hcz7_6 hcz7_7
     try clear hfz7_0 hfz7_1 hfz7_2 hfz7_3 hfz7_4 hfz7_5 hfz7_6 hfz7_7
     try clear hx298_0
     try clear hx298_1
     try clear hx298_2
     try clear hx298_3
     try clear hx298_4
     try clear hx298_5
     try clear hx298_6
     try clear hx298_7
     try clear p298
     try clear q298
     obtain ⟨kq, x20_4, rfl, HA, HJ4, HO_3, BK299, HB⟩ := hcut
     cases kq with
     | zero => exact absurd HA.out (by simp [impl_Merge.j1])
     | succ kj4 =>
      have H := HA.out
      clear HA
      simp only [impl_Merge.j1] at H
      by_cases c12 : x20_4 = true
      ·subst c12
       rw [if_pos rfl] at H
       have H' := Aside0.mk H
       clear H
       go_wp2
       go_roundg kj4
       case measure => have := HK1.out; have := HJ4.out; omega
       case rel => exact ⟨(x3_1), (wrap64 (x9_1 + 1)), rG, H', ⟨by have := HK1.out; have := HJ4.out; omega⟩, ⟨by (with_reducible repeat (first|apply rA|apply rN|apply rD|apply Kd.S_alloc|apply Kd.S_drewN|apply Kd.S_drew)); exact Kd.S_mono HO_3.out (fun _ hk => trivial)⟩, ⟨hB⟩⟩
      ·replace c12 := Bool.eq_false_iff.mpr c12
       subst c12
       rw [if_neg (show ¬ (false = true) by decide)] at H
       by_cases c13 : ((rd_T34 l0 x9_1).f0) = 2
       ·rw [if_pos c13] at H
        obtain ⟨c13b0, c13b1⟩ := eqT c13
        clear c13
        by_cases c14 : (x3_1.length : Int) > 0
        ·rw [if_pos c14] at H
         have c14b0 : decide (0 < (x3_1.length : Int)) = true := decide_eq_true c14
         have c14b1 : decide (0 < x3_1.length) = true := decide_eq_true (by omega)
         clear c14
         obtain ⟨ji15, hji15⟩ : ∃ j_ : Int, (wrap64 ((x3_1.length : Int) - 1)) = j_ := ⟨_, rfl⟩
         replace H : (if 0 ≤ (ji15) then (if (ji15) < (x3_1.length : Int) then (if ((rd_T34 x3_1 (ji15)).f0) = 2 then (if ((rd_T34 x3_1 (ji15)).f7).size + ((rd_T34 l0 x9_1).f7).size ≤ 9223372036854775807 then (impl_Merge.l0 kj4 (x3_1.set ((ji15) : Int).toNat (⟨(rd_T34 x3_1 (ji15)).f0, (rd_T34 x3_1 (ji15)).f1, (rd_T34 x3_1 (ji15)).f2, (rd_T34 x3_1 (ji15)).f3, (rd_T34 x3_1 (ji15)).f4, (rd_T34 x3_1 (ji15)).f5, (rd_T34 x3_1 (ji15)).f6, ((rd_T34 x3_1 (ji15)).f7) ++ ((rd_T34 l0 x9_1).f7)⟩ : S34)) l0 (l0.length : Int) (wrap64 (x9_1 + 1))) else (none)) else ((impl_cloneNode.f kj4 ((rd_T34 l0 x9_1).f0) ((rd_T34 l0 x9_1).f1) ((rd_T34 l0 x9_1).f2) ((rd_T34 l0 x9_1).f3) ((rd_T34 l0 x9_1).f4) ((rd_T34 l0 x9_1).f5) ((rd_T34 l0 x9_1).f6) ((rd_T34 l0 x9_1).f7)).bind fun bt303 => (if x3_1.length < 977343669134 then (impl_Merge.l0 kj4 (x3_1 ++ [(⟨bt303.1, bt303.2.1, bt303.2.2.1, bt303.2.2.2.1, bt303.2.2.2.2.1, bt303.2.2.2.2.2.1, bt303.2.2.2.2.2.2.1, bt303.2.2.2.2.2.2.2⟩ : S34)]) l0 (l0.length : Int) (wrap64 (x9_1 + 1))) else (none)))) else (none)) else (none)) = some r := by first | (rw [hji15] at H; exact H) | (simp only [hji15] at H ⊢; exact H)
         have hji15w : (IntKind.i64.wrap ((x3_1.length : Int) - 1)) = ji15 := (i64_w _).trans hji15
         obtain ⟨c16, H⟩ := if_som H
         have c16b0 : decide (0 ≤ (ji15)) = true := decide_eq_true c16
         clear c16
         obtain ⟨c17, H⟩ := if_som H
         have c17b0 : decide ((ji15) < (x3_1.length : Int)) = true := decide_eq_true c17
         clear c17
         by_cases c18 : ((rd_T34 x3_1 (ji15)).f0) = 2
         ·rw [if_pos c18] at H
          obtain ⟨c18b0, c18b1⟩ := eqT c18
          clear c18
          obtain ⟨c19, H⟩ := if_som H
          obtain ⟨c19b0, c19b1⟩ := fcT c19
          try have c19b2 : (9223372036854775807 < ((rd_T34 x3_1 (ji15)).f7).size + ((rd_T34 l0 x9_1).f7).size) = False := eq_false (Nat.not_lt.2 c19)
          obtain ⟨y302, hy302⟩ : ∃ y_ : List (S34), y_ = (x3_1.set ((ji15) : Int).toNat (⟨(rd_T34 x3_1 (ji15)).f0, (rd_T34 x3_1 (ji15)).f1, (rd_T34 x3_1 (ji15)).f2, (rd_T34 x3_1 (ji15)).f3, (rd_T34 x3_1 (ji15)).f4, (rd_T34 x3_1 (ji15)).f5, (rd_T34 x3_1 (ji15)).f6, ((rd_T34 x3_1 (ji15)).f7) ++ ((rd_T34 l0 x9_1).f7)⟩ : S34)) := ⟨_, rfl⟩
          replace H : (impl_Merge.l0 kj4 y302 l0 (l0.length : Int) (wrap64 (x9_1 + 1))) = some r := by first | (rw [hy302]; with_reducible exact H) | (have H2_ := (Option.bind_some _ _).symm.trans H; rw [hy302]; with_reducible exact H2_) | (have H2_ := (Option.bind_some _ _).symm.trans H; with_reducible exact H2_) | with_reducible exact H | (rw [hy302]; exact H) | exact H
          have Ny302 := Aside0.mk hy302
          clear hy302
          have H' := Aside0.mk H
          clear H
          obtain ⟨hcz21_0, hcz21_1, hcz21_2, hcz21_3, hcz21_4, hcz21_5, hcz21_6, hcz21_7⟩ := bc8 BK299.out
          obtain ⟨hfz21_0, hfz21_1, hfz21_2, hfz21_3, hfz21_4, hfz21_5, hfz21_6, hfz21_7⟩ := bf8 BK299.out
          have p300 : 0 ≤ ((ji15) : Int) := odt
          have q300 : (ji15) < (x3_1.length : Int) := odt
          obtain ⟨ad300, A300_4, c300_4, A300_5, c300_5, A300_6, c300_6, e300, hx300_0, hx300_1, hx300_2, hx300_3, hx300_4, hx300_5, hx300_6, hx300_7, hl300_4, hi300_4, hl300_5, hi300_5, hl300_6, hi300_6⟩ := at_T34 (Kd.R_reads' (kD_toR HO_3.out)).2.2 (ji15) p300 q300
          cases e300
          obtain ⟨ce300, hce300, hMe300, hcc300⟩ := Kd.R_get (kD_toR HO_3.out) z34 (ji15) p300 (by first | exact q300 | exact odt | (have e_ := (Kd.R_reads' (kD_toR HO_3.out)).1; omega))
          obtain ⟨ve300_4, ve300_5, ve300_6, rfl, ge300_4, ge300_5, ge300_6⟩ := k34_openM hMe300
          have hv300_4 := hcc300 4 _ rfl
          rw [add_field _ _ 4 (by omega)] at hv300_4
          replace hv300_4 := Option.some.inj (hv300_4.symm.trans hx300_4)
          rw [hv300_4] at ge300_4
          have HL300_4 := Aside0.mk (show Kd.R k88 88 _ _ _ _ ((rd_T34 x3_1 (ji15)).f4) from ge300_4)
          clear hv300_4 ge300_4
          have hv300_5 := hcc300 5 _ rfl
          rw [add_field _ _ 5 (by omega)] at hv300_5
          replace hv300_5 := Option.some.inj (hv300_5.symm.trans hx300_5)
          rw [hv300_5] at ge300_5
          have HL300_5 := Aside0.mk (show Kd.R k90 90 _ _ _ _ ((rd_T34 x3_1 (ji15)).f5) from ge300_5)
          clear hv300_5 ge300_5
          have hv300_6 := hcc300 6 _ rfl
          rw [add_field _ _ 6 (by omega)] at hv300_6
          replace hv300_6 := Option.some.inj (hv300_6.symm.trans hx300_6)
          rw [hv300_6] at ge300_6
          have HL300_6 := Aside0.mk (show Kd.R k34 34 _ _ _ _ ((rd_T34 x3_1 (ji15)).f6) from ge300_6)
          clear hv300_6 ge300_6
          clear hcc300 hce300
          have HR300_4 := Aside0.mk hi300_4
          have HC300_4 := Aside0.mk hl300_4
          clear hi300_4 hl300_4
          have HR300_5 := Aside0.mk hi300_5
          have HC300_5 := Aside0.mk hl300_5
          clear hi300_5 hl300_5
          have HR300_6 := Aside0.mk hi300_6
          have HC300_6 := Aside0.mk hl300_6
          clear hi300_6 hl300_6
          replace p300 := eq_true p300
          replace q300 := eq_true q300
          try go_wp2
          replace HO_3 := Aside0.mk (Kd.S_drew HO_3.out)
          replace HL300_4 := Aside0.mk (Kd.R_drew HL300_4.out)
          replace HL300_5 := Aside0.mk (Kd.R_drew HL300_5.out)
          replace HL300_6 := Aside0.mk (Kd.R_drew HL300_6.out)
          replace BK299 := Aside0.mk (blk_drew BK299.out)
          replace HR300_4 := Aside0.mk (Kd.C_drew HR300_4.out)
          replace HR300_5 := Aside0.mk (Kd.C_drew HR300_5.out)
          replace HR300_6 := Aside0.mk (Kd.C_drew HR300_6.out)
          replace HB := Aside0.mk (below_drew1 HB.out)
          have p301 : 0 ≤ ((ji15) : Int) := odt
          have q301 : (ji15) < (x3_1.length : Int) := odt
          obtain ⟨ad301, A301_4, c301_4, A301_5, c301_5, A301_6, c301_6, e301, hx301_0, hx301_1, hx301_2, hx301_3, hx301_4, hx301_5, hx301_6, hx301_7, hl301_4, hi301_4, hl301_5, hi301_5, hl301_6, hi301_6⟩ := at_T34 (Kd.R_reads' (kD_toR HO_3.out)).2.2 (ji15) p301 q301
          obtain rfl : ad300 = ad301 := (by injection e301)
          obtain ⟨ce301, hce301, hMe301, hcc301⟩ := Kd.R_get (kD_toR HO_3.out) z34 (ji15) p301 (by first | exact q301 | exact odt | (have e_ := (Kd.R_reads' (kD_toR HO_3.out)).1; omega))
          obtain ⟨ve301_4, ve301_5, ve301_6, rfl, ge301_4, ge301_5, ge301_6⟩ := k34_openM hMe301
          have hv301_4 := hcc301 4 _ rfl
          rw [add_field _ _ 4 (by omega)] at hv301_4
          replace hv301_4 := Option.some.inj (hv301_4.symm.trans hx301_4)
          rw [hv301_4] at ge301_4
          have HL301_4 := Aside0.mk (show Kd.R k88 88 _ _ _ _ ((rd_T34 x3_1 (ji15)).f4) from ge301_4)
          clear hv301_4 ge301_4
          have hv301_5 := hcc301 5 _ rfl
          rw [add_field _ _ 5 (by omega)] at hv301_5
          replace hv301_5 := Option.some.inj (hv301_5.symm.trans hx301_5)
          rw [hv301_5] at ge301_5
          have HL301_5 := Aside0.mk (show Kd.R k90 90 _ _ _ _ ((rd_T34 x3_1 (ji15)).f5) from ge301_5)
          clear hv301_5 ge301_5
          have hv301_6 := hcc301 6 _ rfl
          rw [add_field _ _ 6 (by omega)] at hv301_6
          replace hv301_6 := Option.some.inj (hv301_6.symm.trans hx301_6)
          rw [hv301_6] at ge301_6
          have HL301_6 := Aside0.mk (show Kd.R k34 34 _ _ _ _ ((rd_T34 x3_1 (ji15)).f6) from ge301_6)
          clear hv301_6 ge301_6
          clear hcc301 hce301
          have HR301_4 := Aside0.mk hi301_4
          have HC301_4 := Aside0.mk hl301_4
          clear hi301_4 hl301_4
          have HR301_5 := Aside0.mk hi301_5
          have HC301_5 := Aside0.mk hl301_5
          clear hi301_5 hl301_5
          have HR301_6 := Aside0.mk hi301_6
          have HC301_6 := Aside0.mk hl301_6
          clear hi301_6 hl301_6
          replace p301 := eq_true p301
          replace q301 := eq_true q301
          have p20 : 0 ≤ ((ji15) : Int) := odt
          have q20 : ((ji15) : Int) < ((x3_1.length : Int) : Int) := odt
          obtain ⟨go20, co20, eo20, gb20, gl20, cl20, HG20⟩ := Kd.R_form (kD_toR HO_3.out) (by omega)
          (first | cases eo20 | (injection eo20 with ea_ en_ ec_; (first | subst ea_ | (injection ea_ with ea_; subst ea_)); subst ec_; clear en_))
          have GB20 := Aside0.mk gb20
          have GG20 := Aside0.mk HG20
          clear gb20 gl20 HG20
          (first | simp only [add_plain] at hx300_0 | skip)
          (first | simp only [add_plain] at hx300_1 | skip)
          (first | simp only [add_plain] at hx300_2 | skip)
          (first | simp only [add_plain] at hx300_3 | skip)
          (first | simp only [add_plain] at hx300_4 | skip)
          (first | simp only [add_plain] at hx300_5 | skip)
          (first | simp only [add_plain] at hx300_6 | skip)
          (first | simp only [add_plain] at hx300_7 | skip)
          (first | simp only [add_plain] at hx301_0 | skip)
          (first | simp only [add_plain] at hx301_1 | skip)
          (first | simp only [add_plain] at hx301_2 | skip)
          (first | simp only [add_plain] at hx301_3 | skip)
          (first | simp only [add_plain] at hx301_4 | skip)
          (first | simp only [add_plain] at hx301_5 | skip)
          (first | simp only [add_plain] at hx301_6 | skip)
          (first | simp only [add_plain] at hx301_7 | skip)
          obtain ⟨ce20, hcl20, hM20, hcc20, hfr20⟩ := Kd.R_elem (kD_toR HO_3.out) z34 ((ji15) : Int) p20 q20
          obtain ⟨ve20_4, ve20_5, ve20_6, rfl, ge20_4, ge20_5, ge20_6⟩ := k34_openM hM20
          have hx20_0 : World.cell? _ ⟨go20, ((ji15) : Int).toNat * 8, none⟩ = some (.int .i64 ((rd_T34 x3_1 (ji15)).f0)) := hcc20 0 _ rfl
          have hx20_1 : World.cell? _ ⟨go20, ((ji15) : Int).toNat * 8 + 1, none⟩ = some (.string ((rd_T34 x3_1 (ji15)).f1)) := hcc20 1 _ rfl
          have hx20_2 : World.cell? _ ⟨go20, ((ji15) : Int).toNat * 8 + 2, none⟩ = some (.string ((rd_T34 x3_1 (ji15)).f2)) := hcc20 2 _ rfl
          have hx20_3 : World.cell? _ ⟨go20, ((ji15) : Int).toNat * 8 + 3, none⟩ = some (.string ((rd_T34 x3_1 (ji15)).f3)) := hcc20 3 _ rfl
          have hx20_4 : World.cell? _ ⟨go20, ((ji15) : Int).toNat * 8 + 4, none⟩ = some (ve20_4) := hcc20 4 _ rfl
          have hx20_5 : World.cell? _ ⟨go20, ((ji15) : Int).toNat * 8 + 5, none⟩ = some (ve20_5) := hcc20 5 _ rfl
          have hx20_6 : World.cell? _ ⟨go20, ((ji15) : Int).toNat * 8 + 6, none⟩ = some (ve20_6) := hcc20 6 _ rfl
          have hx20_7 : World.cell? _ ⟨go20, ((ji15) : Int).toNat * 8 + 7, none⟩ = some (.string ((rd_T34 x3_1 (ji15)).f7)) := hcc20 7 _ rfl
          have hf20_0 : World.frozen? _ ⟨go20, ((ji15) : Int).toNat * 8, none⟩ = false := hfr20 0
          have hf20_1 : World.frozen? _ ⟨go20, ((ji15) : Int).toNat * 8 + 1, none⟩ = false := hfr20 1
          have hf20_2 : World.frozen? _ ⟨go20, ((ji15) : Int).toNat * 8 + 2, none⟩ = false := hfr20 2
          have hf20_3 : World.frozen? _ ⟨go20, ((ji15) : Int).toNat * 8 + 3, none⟩ = false := hfr20 3
          have hf20_4 : World.frozen? _ ⟨go20, ((ji15) : Int).toNat * 8 + 4, none⟩ = false := hfr20 4
          have hf20_5 : World.frozen? _ ⟨go20, ((ji15) : Int).toNat * 8 + 5, none⟩ = false := hfr20 5
          have hf20_6 : World.frozen? _ ⟨go20, ((ji15) : Int).toNat * 8 + 6, none⟩ = false := hfr20 6
          have hf20_7 : World.frozen? _ ⟨go20, ((ji15) : Int).toNat * 8 + 7, none⟩ = false := hfr20 7
          clear hcl20 hcc20 hfr20 hM20
          replace p20 := eq_true p20
          replace q20 := eq_true q20
          obtain ⟨ce23, hcl23, hM23, hcc23, hfr23⟩ := Kd.R_elem (kD_toR HO_3.out) z34 ((ji15) : Int) (odt) (by have h_ : ((ji15) : Int) < ((x3_1.length : Int) : Int) := odt; first | exact h_ | (have e_ := (Kd.R_reads' (kD_toR HO_3.out)).1; omega) | simpa using h_)
          obtain ⟨ve23_4, ve23_5, ve23_6, rfl, ge23_4, ge23_5, ge23_6⟩ := k34_openM hM23
          have HP23 := kD_seg7 HO_3.out ((ji15) : Int) (odt) (by have h_ : ((ji15) : Int) < ((x3_1.length : Int) : Int) := odt; first | exact h_ | (have e_ := (Kd.R_reads' (kD_toR HO_3.out)).1; omega) | simpa using h_) ((((rd_T34 x3_1 (ji15)).f7) ++ ((rd_T34 l0 x9_1).f7)))
          rw [← Ny302.out] at HP23
          have HQ23 := Aside0.mk HP23
          clear hcl23 hcc23 hfr23 hM23 HP23
          refine start_ (n := 12) (S := fun w' => w'.cell? ⟨gb299, 0, none⟩ = some (.int .i64 ((rd_T34 l0 x9_1).f0)) ∧ w'.cell? ⟨gb299, 1, none⟩ = some (.string ((rd_T34 l0 x9_1).f1)) ∧ w'.cell? ⟨gb299, 2, none⟩ = some (.string ((rd_T34 l0 x9_1).f2)) ∧ w'.cell? ⟨gb299, 3, none⟩ = some (.string ((rd_T34 l0 x9_1).f3)) ∧ w'.cell? ⟨gb299, 4, none⟩ = some (.slice A298_4 ((rd_T34 l0 x9_1).f4).length c298_4) ∧ w'.cell? ⟨gb299, 5, none⟩ = some (.slice A298_5 ((rd_T34 l0 x9_1).f5).length c298_5) ∧ w'.cell? ⟨gb299, 6, none⟩ = some (.slice A298_6 ((rd_T34 l0 x9_1).f6).length c298_6) ∧ w'.cell? ⟨gb299, 7, none⟩ = some (.string ((rd_T34 l0 x9_1).f7)) ∧ w'.cell? ⟨go20, ((ji15)).toNat * 8, none⟩ = some (.int .i64 ((rd_T34 x3_1 (ji15)).f0)) ∧ w'.cell? ⟨go20, ((ji15)).toNat * 8 + 1, none⟩ = some (.string ((rd_T34 x3_1 (ji15)).f1)) ∧ w'.cell? ⟨go20, ((ji15)).toNat * 8 + 2, none⟩ = some (.string ((rd_T34 x3_1 (ji15)).f2)) ∧ w'.cell? ⟨go20, ((ji15)).toNat * 8 + 3, none⟩ = some (.string ((rd_T34 x3_1 (ji15)).f3)) ∧ w'.cell? ⟨go20, ((ji15)).toNat * 8 + 4, none⟩ = some (.slice A301_4 ((rd_T34 x3_1 (ji15)).f4).length c301_4) ∧ w'.cell? ⟨go20, ((ji15)).toNat * 8 + 5, none⟩ = some (.slice A301_5 ((rd_T34 x3_1 (ji15)).f5).length c301_5) ∧ w'.cell? ⟨go20, ((ji15)).toNat * 8 + 6, none⟩ = some (.slice A301_6 ((rd_T34 x3_1 (ji15)).f6).length c301_6) ∧ w'.cell? ⟨go20, ((ji15)).toNat * 8 + 7, none⟩ = some (.string ((rd_T34 x3_1 (ji15)).f7))) (ds := [11]) #[false, false, false, false, false, false, false, false, false, false, false, false] (by kernel_rfl) rfl rfl ⟨(blk_cell BK299.out 0).trans rfl, (blk_cell BK299.out 1).trans rfl, (blk_cell BK299.out 2).trans rfl, (blk_cell BK299.out 3).trans rfl, (blk_cell BK299.out 4).trans rfl, (blk_cell BK299.out 5).trans rfl, (blk_cell BK299.out 6).trans rfl, (blk_cell BK299.out 7).trans rfl, hx301_0, hx301_1, hx301_2, hx301_3, hx301_4, hx301_5, hx301_6, hx301_7⟩ (fun hHeld => ?_); refine with_tabW impl_Merge.tab9 impl_Merge.bits9 (fun HT_ HW_ => ?_)
          generalize wc.drew = w22 at HO_3 HL300_4 HL300_5 HL300_6 BK299 HR300_4 HR300_5 HR300_6 HB GG20 HL301_4 HL301_5 HL301_6 HQ23 HR301_4 HR301_5 HR301_6 hf20_0 hf20_1 hf20_2 hf20_3 hf20_4 hf20_5 hf20_6 hf20_7 hx20_0 hx20_1 hx20_2 hx20_3 hx20_4 hx20_5 hx20_6 hx20_7 hx300_0 hx300_1 hx300_2 hx300_3 hx300_4 hx300_5 hx300_6 hx300_7 hx301_0 hx301_1 hx301_2 hx301_3 hx301_4 hx301_5 hx301_6 hx301_7 hHeld ⊢
          refine pU 0 46 (tf 1 11) ?_
          refine pU 1 47 (tf 2 10) ?_
          refine pU 2 48 (tf 3 9) ?_
          refine pU 3 49 (tf 4 8) ?_
          refine pU 4 50 (tf 5 7) ?_
          refine pU 6 52 #[true, true, true, true, true, false, true, false, false, false, false, false] ?_
          refine take_ (i := 5) (N := some 51) (v := ?_) (a' := ?_) (tf 7 5) rfl rfl (take_ofW HT_.out HW_.out (by kernel_rfl)) (fun _ _ _ h => h) (Or.inl ⟨by rfl, ?_⟩) hHeld ?_ ?_
          rotate_left
          ·rintro w' ⟨s0, s1, s2, s3, s4, s5, s6, s7, s8, s9, s10, s11, s12, s13, s14, s15⟩
           go_simp
           with_reducible rfl
          rotate_left
          ·simp only [Act.put, sT, sZ, sS, i64_w, i32_w]
           rfl
          refine take_ (i := 7) (N := some 53) (v := ?_) (a' := ?_) (tf 8 4) rfl rfl (take_ofW HT_.out HW_.out (by kernel_rfl)) (fun _ _ _ h => h) (Or.inl ⟨by rfl, ?_⟩) hHeld ?_ ?_
          rotate_left
          ·rintro w' ⟨s0, s1, s2, s3, s4, s5, s6, s7, s8, s9, s10, s11, s12, s13, s14, s15⟩
           go_simp
           with_reducible rfl
          rotate_left
          ·simp only [Act.put, sT, sZ, sS, i64_w, i32_w]
           rfl
          refine pU 8 54 (tf 9 3) ?_
          refine pU 9 55 (tf 10 2) ?_
          refine pU 10 56 (tf 11 1) ?_
          refine last_ (i := 11) (N := none) (tf 12 0) rfl rfl (one_of HT_.out (by kernel_rfl)) (by decide) (fun K hK => ?_)
          refine skip_ (w1 := ?_) (by rfl) rfl ?_ ?_
          rotate_left
          ·go_simp
           rfl
          refine hK.out _ _ ?_
          clear hK K
          refine done_ (done_of HT_.out (by kernel_rfl)) ?_
          try go_wp2
          go_roundg kj4
          case measure => have := HK1.out; have := HJ4.out; omega
          case rel => exact ⟨(y302), (wrap64 (x9_1 + 1)), rG, H', ⟨by have := HK1.out; have := HJ4.out; omega⟩, ⟨by (with_reducible repeat (first|apply rA|apply rN|apply rD|apply Kd.S_alloc|apply Kd.S_drewN|apply Kd.S_drew)); exact Kd.S_mono HQ23.out (fun _ hk => trivial)⟩, ⟨by repeat (first|(with_reducible first|exact HB.out|apply zA|apply zN|apply zD | refine below_set ?_ GB20.out | refine below_set ?_ GE299.out) | exact HB.out)⟩⟩
         ·rw [if_neg c18] at H
          obtain ⟨c18b0, c18b1⟩ := eqF c18
          replace H := Option.bind_eq_some_iff.mp H
          obtain ⟨⟨t303, t304, t305, t306, t307, t310, t313, t316⟩, A240, H⟩ := H
          try dsimp only at H
          have A24 := Aside0.mk A240
          clear A240
          obtain ⟨c25, H⟩ := if_som H
          have LMc25 := Aside0.mk c25
          clear c25
          obtain ⟨y317, hy317⟩ : ∃ y_ : List (S34), y_ = (x3_1 ++ [(⟨t303, t304, t305, t306, t307, t310, t313, t316⟩ : S34)]) := ⟨_, rfl⟩
          replace H : (impl_Merge.l0 kj4 y317 l0 (l0.length : Int) (wrap64 (x9_1 + 1))) = some r := by first | (rw [hy317]; with_reducible exact H) | (have H2_ := (Option.bind_some _ _).symm.trans H; rw [hy317]; with_reducible exact H2_) | (have H2_ := (Option.bind_some _ _).symm.trans H; with_reducible exact H2_) | with_reducible exact H | (rw [hy317]; exact H) | exact H
          have Ny317 := Aside0.mk hy317
          clear hy317
          have H' := Aside0.mk H
          clear H
          obtain ⟨hcz26_0, hcz26_1, hcz26_2, hcz26_3, hcz26_4, hcz26_5, hcz26_6, hcz26_7⟩ := bc8 BK299.out
          obtain ⟨hfz26_0, hfz26_1, hfz26_2, hfz26_3, hfz26_4, hfz26_5, hfz26_6, hfz26_7⟩ := bf8 BK299.out
          have p300 : 0 ≤ ((ji15) : Int) := odt
          have q300 : (ji15) < (x3_1.length : Int) := odt
          obtain ⟨ad300, A300_4, c300_4, A300_5, c300_5, A300_6, c300_6, e300, hx300_0, hx300_1, hx300_2, hx300_3, hx300_4, hx300_5, hx300_6, hx300_7, hl300_4, hi300_4, hl300_5, hi300_5, hl300_6, hi300_6⟩ := at_T34 (Kd.R_reads' (kD_toR HO_3.out)).2.2 (ji15) p300 q300
          cases e300
          obtain ⟨ce300, hce300, hMe300, hcc300⟩ := Kd.R_get (kD_toR HO_3.out) z34 (ji15) p300 (by first | exact q300 | exact odt | (have e_ := (Kd.R_reads' (kD_toR HO_3.out)).1; omega))
          obtain ⟨ve300_4, ve300_5, ve300_6, rfl, ge300_4, ge300_5, ge300_6⟩ := k34_openM hMe300
          have hv300_4 := hcc300 4 _ rfl
          rw [add_field _ _ 4 (by omega)] at hv300_4
          replace hv300_4 := Option.some.inj (hv300_4.symm.trans hx300_4)
          rw [hv300_4] at ge300_4
          have HL300_4 := Aside0.mk (show Kd.R k88 88 _ _ _ _ ((rd_T34 x3_1 (ji15)).f4) from ge300_4)
          clear hv300_4 ge300_4
          have hv300_5 := hcc300 5 _ rfl
          rw [add_field _ _ 5 (by omega)] at hv300_5
          replace hv300_5 := Option.some.inj (hv300_5.symm.trans hx300_5)
          rw [hv300_5] at ge300_5
          have HL300_5 := Aside0.mk (show Kd.R k90 90 _ _ _ _ ((rd_T34 x3_1 (ji15)).f5) from ge300_5)
          clear hv300_5 ge300_5
          have hv300_6 := hcc300 6 _ rfl
          rw [add_field _ _ 6 (by omega)] at hv300_6
          replace hv300_6 := Option.some.inj (hv300_6.symm.trans hx300_6)
          rw [hv300_6] at ge300_6
          have HL300_6 := Aside0.mk (show Kd.R k34 34 _ _ _ _ ((rd_T34 x3_1 (ji15)).f6) from ge300_6)
          clear hv300_6 ge300_6
          clear hcc300 hce300
          have HR300_4 := Aside0.mk hi300_4
          have HC300_4 := Aside0.mk hl300_4
          clear hi300_4 hl300_4
          have HR300_5 := Aside0.mk hi300_5
          have HC300_5 := Aside0.mk hl300_5
          clear hi300_5 hl300_5
          have HR300_6 := Aside0.mk hi300_6
          have HC300_6 := Aside0.mk hl300_6
          clear hi300_6 hl300_6
          replace p300 := eq_true p300
          replace q300 := eq_true q300
          go_wp2_with (first | ((with_reducible refine gate_callee (f := 47) rfl ?_); refine goesL_ (some 17) rfl rfl Try.func47 (by kernel_rfl) rfl #[.agg #[.int .i64 ((rd_T34 l0 x9_1).f0), .string ((rd_T34 l0 x9_1).f1), .string ((rd_T34 l0 x9_1).f2), .string ((rd_T34 l0 x9_1).f3), .slice A298_4 ((rd_T34 l0 x9_1).f4).length c298_4, .slice A298_5 ((rd_T34 l0 x9_1).f5).length c298_5, .slice A298_6 ((rd_T34 l0 x9_1).f6).length c298_6, .string ((rd_T34 l0 x9_1).f7)]] rfl mA ?_; (with_reducible refine (impl_cloneNode.callsD kj4 ((rd_T34 l0 x9_1).f0) ((rd_T34 l0 x9_1).f1) ((rd_T34 l0 x9_1).f2) ((rd_T34 l0 x9_1).f3) _ _ ((rd_T34 l0 x9_1).f4) _ _ ((rd_T34 l0 x9_1).f5) _ _ ((rd_T34 l0 x9_1).f6) ((rd_T34 l0 x9_1).f7) t303 t304 t305 t306 t307 t310 t313 t316 _ ?side1 ?side2 ?side3 ?side4 ?side5 ?side6 A24.out).mono ?_); (case side1 => repeat (first | exact (Kd.C_below HR298_4.out HB.out) | (with_reducible refine Kd.C_alloc ?_ _) | (with_reducible refine Kd.C_drewN ?_ _) | (with_reducible refine Kd.C_drew ?_))); (case side2 => exact HC298_4.out); (case side3 => repeat (first | exact (Kd.C_below HR298_5.out HB.out) | (with_reducible refine Kd.C_alloc ?_ _) | (with_reducible refine Kd.C_drewN ?_ _) | (with_reducible refine Kd.C_drew ?_))); (case side4 => exact HC298_5.out); (case side5 => repeat (first | exact (Kd.C_below HR298_6.out HB.out) | (with_reducible refine Kd.C_alloc ?_ _) | (with_reducible refine Kd.C_drewN ?_ _) | (with_reducible refine Kd.C_drew ?_))); (case side6 => exact HC298_6.out); rintro e w27 ⟨v308, v311, v314, rfl, ho0, ho1, ho2, hb⟩; refine ⟨_, rfl, ?_⟩; obtain ⟨N_, hNb, hN0, hN1, hN2, hN3⟩ : ∃ N : Nat, w.heap.size ≤ N ∧ Kd.R k88 88 w27 N (fun _ => True) v308 t307 ∧ Kd.R k90 90 w27 N (fun _ => True) v311 t310 ∧ Kd.S kD 34 w27 N (fun k_ => some k_ ≠ (v308 : Value).ownBlock ∧ some k_ ≠ (v311 : Value).ownBlock) v314 t313 ∧ Kd.S kD 34 w27 w.heap.size (fun k_ => k_ < N) (.slice (some ad300) x3_1.length co8) x3_1 := ⟨_, below_size hB, ho0, ho1, ho2, Kd.S_mono (Kd.S_old (by (with_reducible repeat (first|apply rA|apply rN|apply rD|apply Kd.S_alloc|apply Kd.S_drewN|apply Kd.S_drew)); exact HO_3.out) hb) (fun _ h_ => h_.2)⟩; have HN_ := Aside0.mk (And.intro hNb (And.intro hN0 (And.intro hN1 (And.intro hN2 hN3)))); clear hNb hN0 hN1 hN2 hN3; have HO309 := Aside0.mk (Kd.R_lower (Kd.R_new' ho0 (Kd.R_lt (by (with_reducible repeat (first|apply rA|apply rN|apply rD|apply Kd.S_alloc|apply Kd.S_drewN|apply Kd.S_drew)); exact HL300_4.out))) (below_size hB)); have HO312 := Aside0.mk (Kd.R_lower (Kd.R_new' ho1 (Kd.R_lt (by (with_reducible repeat (first|apply rA|apply rN|apply rD|apply Kd.S_alloc|apply Kd.S_drewN|apply Kd.S_drew)); exact HL300_5.out))) (below_size hB)); have HO315 := Aside0.mk (Kd.S_lower (Kd.S_newB (Kd.S_new' (Kd.S_new' (Kd.S_new' (Kd.S_new' ho2 (Kd.S_lt (by (with_reducible repeat (first|apply rA|apply rN|apply rD|apply Kd.S_alloc|apply Kd.S_drewN|apply Kd.S_drew)); exact HO_3.out))) (Kd.R_lt (by (with_reducible repeat (first|apply rA|apply rN|apply rD|apply Kd.S_alloc|apply Kd.S_drewN|apply Kd.S_drew)); exact HL300_4.out))) (Kd.R_lt (by (with_reducible repeat (first|apply rA|apply rN|apply rD|apply Kd.S_alloc|apply Kd.S_drewN|apply Kd.S_drew)); exact HL300_5.out))) (Kd.R_lt (by (with_reducible repeat (first|apply rA|apply rN|apply rD|apply Kd.S_alloc|apply Kd.S_drewN|apply Kd.S_drew)); exact HL300_6.out))) (g := gb299) (by (with_reducible repeat (first | refine bN ?_ _|refine bD ?_|refine bA ?_ _)); exact BK299.out)) (below_size hB)); replace HO_3 := Aside0.mk (Kd.S_mono (Kd.S_told (Kd.S_told (Kd.S_told (Kd.S_old (by (with_reducible repeat (first|apply rA|apply rN|apply rD|apply Kd.S_alloc|apply Kd.S_drewN|apply Kd.S_drew)); exact HO_3.out) hb) (Kd.R_base ho0)) (Kd.R_base ho1)) (Kd.S_base ho2)) (fun _ h_ => h_.1)); replace HL300_4 := Aside0.mk (Kd.R_elder' (by (with_reducible repeat (first|apply rA|apply rN|apply rD|apply Kd.S_alloc|apply Kd.S_drewN|apply Kd.S_drew)); exact HL300_4.out) (Kd.R_base ho0) hb); replace HL300_5 := Aside0.mk (Kd.R_elder' (by (with_reducible repeat (first|apply rA|apply rN|apply rD|apply Kd.S_alloc|apply Kd.S_drewN|apply Kd.S_drew)); exact HL300_5.out) (Kd.R_base ho1) hb); replace HL300_6 := Aside0.mk (Kd.R_mono (Kd.R_told (Kd.R_told (Kd.R_told (Kd.R_old (by (with_reducible repeat (first|apply rA|apply rN|apply rD|apply Kd.S_alloc|apply Kd.S_drewN|apply Kd.S_drew)); exact HL300_6.out) hb) (Kd.R_base ho0)) (Kd.R_base ho1)) (Kd.S_base ho2)) (fun _ h_ => h_.1)); replace BK299 := Aside0.mk (blk_below (g := gb299) (by (with_reducible repeat (first | refine bN ?_ _|refine bD ?_|refine bA ?_ _)); exact BK299.out) hb); replace HR300_4 := Aside0.mk (Kd.C_below (by repeat (first | (with_reducible exact HR300_4.out) | (with_reducible refine Kd.C_alloc ?_ _) | (with_reducible refine Kd.C_drewN ?_ _) | (with_reducible refine Kd.C_drew ?_) | exact HR300_4.out)) hb); replace HR300_5 := Aside0.mk (Kd.C_below (by repeat (first | (with_reducible exact HR300_5.out) | (with_reducible refine Kd.C_alloc ?_ _) | (with_reducible refine Kd.C_drewN ?_ _) | (with_reducible refine Kd.C_drew ?_) | exact HR300_5.out)) hb); replace HR300_6 := Aside0.mk (Kd.C_below (by repeat (first | (with_reducible exact HR300_6.out) | (with_reducible refine Kd.C_alloc ?_ _) | (with_reducible refine Kd.C_drewN ?_ _) | (with_reducible refine Kd.C_drew ?_) | exact HR300_6.out)) hb); replace HB := Aside0.mk (below_step hB hb); (try clear hb); (try clear hb2); (try clear hk); (try clear hi); (try clear ho0); (try clear ho1); (try clear ho2); obtain ⟨Ao29, co29, eo29⟩ := Kd.R_slice HO309.out; subst eo29; obtain ⟨Ao30, co30, eo30⟩ := Kd.R_slice HO312.out; subst eo30; obtain ⟨Ao31, co31, eo31⟩ := Kd.S_slice HO315.out; subst eo31) | ((with_reducible refine gate_builtin (b := .append) (xs := #[.tmp 15, .tmp 18]) rfl ?_); at_builtin; refine Kd.S_append kD (w0 := w) w.heap.size rfl (.tmp 15) (.tmp 18) 32 34 (.agg #[(.int .i64 0), (.string ⟨#[]⟩), (.string ⟨#[]⟩), (.string ⟨#[]⟩), (.slice none 0 0), (.slice none 0 0), (.slice none 0 0), (.string ⟨#[]⟩)]) 144 rfl Try.underlying32 info34 rfl (by decide) (by omega) (.slice (some ad300) x3_1.length co8) x3_1 (⟨t303, t304, t305, t306, t307, t310, t313, t316⟩ : S34) [.int .i64 t303, .string t304, .string t305, .string t306, .slice Ao29 t307.length co29, .slice Ao30 t310.length co30, .slice Ao31 t313.length co31, .string t316] (fun _ => True) (fun k_ => N_ ≤ k_) rfl rfl ?aP (fun k_ hk_ => ⟨trivial, fun e_ => Nat.not_lt.2 hk_ ((Kd.S_R HN_.out.2.2.2.2).1 k_ e_.symm)⟩) ?aF ?aO ?aB ?aS ?aL ?_; (case aP => exact kD_elemM HN_.out.1 (⟨t303, t304, t305, t306, t307, t310, t313, t316⟩ : S34) HN_.out.2.1 HN_.out.2.2.1 HN_.out.2.2.2.1); (case aB => exact hB); (case aF => exact fun _ _ => trivial); (case aO => exact Kd.S_mono HN_.out.2.2.2.2 (fun k_ hk_ => ⟨trivial, Nat.not_le.2 hk_⟩)); (case aS => exact (below_size hB)); (case aL => have := LMc25.out; omega); intro v318 w28 ho hb hg hat; rw [← Ny317.out] at ho; replace BK299 := Aside0.mk (blk_grown (g := gb299) (by (with_reducible repeat (first | refine bN ?_ _|refine bD ?_|refine bA ?_ _)); exact BK299.out) hg (Kd.S_away HO_3.out (fun _ hk => hk.1.1.1))); replace HL300_4 := Aside0.mk (Kd.R_after (ok := (fun k_ => some k_ ≠ (.slice Ao29 t307.length co29 : Value).ownBlock ∧ k_ ≠ gb299)) (by (with_reducible repeat (first|apply rA|apply rN|apply rD|apply Kd.S_alloc|apply Kd.S_drewN|apply Kd.S_drew)); exact Kd.R_mono HL300_4.out (fun _ hk => ⟨⟨hk.2, hk.1.1⟩, hk.1.2⟩)) hg hat); replace HL300_5 := Aside0.mk (Kd.R_after (ok := (fun k_ => some k_ ≠ (.slice Ao30 t310.length co30 : Value).ownBlock ∧ k_ ≠ gb299)) (by (with_reducible repeat (first|apply rA|apply rN|apply rD|apply Kd.S_alloc|apply Kd.S_drewN|apply Kd.S_drew)); exact Kd.R_mono HL300_5.out (fun _ hk => ⟨⟨hk.2, hk.1.1⟩, hk.1.2⟩)) hg hat); replace HL300_6 := Aside0.mk (Kd.R_after (ok := (fun k_ => some k_ ≠ (.slice Ao29 t307.length co29 : Value).ownBlock ∧ some k_ ≠ (.slice Ao30 t310.length co30 : Value).ownBlock ∧ some k_ ≠ (.slice Ao31 t313.length co31 : Value).ownBlock ∧ k_ ≠ gb299)) (by (with_reducible repeat (first|apply rA|apply rN|apply rD|apply Kd.S_alloc|apply Kd.S_drewN|apply Kd.S_drew)); exact Kd.R_mono HL300_6.out (fun _ hk => ⟨⟨hk.1.1.2, ⟨hk.1.2, ⟨hk.2, hk.1.1.1.1⟩⟩⟩, hk.1.1.1.2⟩)) hg hat); replace HB := Aside0.mk (hb); have HO319 := Aside0.mk (ho); clear HO_3; clear HO309; clear HO312; clear HO315; clear ho hb hg hat))
          go_roundg kj4
          case measure => have := HK1.out; have := HJ4.out; omega
          case rel => exact ⟨(y317), (wrap64 (x9_1 + 1)), rG, H', ⟨by have := HK1.out; have := HJ4.out; omega⟩, ⟨by (with_reducible repeat (first|apply rA|apply rN|apply rD|apply Kd.S_alloc|apply Kd.S_drewN|apply Kd.S_drew)); exact Kd.S_mono HO319.out (fun _ hk => trivial)⟩, ⟨hB⟩⟩
        ·rw [if_neg c14] at H
         have c14b0 : decide (0 < (x3_1.length : Int)) = false := decide_eq_false c14
         have c14b1 : decide (0 < x3_1.length) = false := decide_eq_false (by omega)
         clear c14
         replace H := Option.bind_eq_some_iff.mp H
         obtain ⟨⟨t320, t321, t322, t323, t324, t327, t330, t333⟩, A320, H⟩ := H
         try dsimp only at H
         have A32 := Aside0.mk A320
         clear A320
         obtain ⟨c33, H⟩ := if_som H
         have LMc33 := Aside0.mk c33
         clear c33
         obtain ⟨y334, hy334⟩ : ∃ y_ : List (S34), y_ = (x3_1 ++ [(⟨t320, t321, t322, t323, t324, t327, t330, t333⟩ : S34)]) := ⟨_, rfl⟩
         replace H : (impl_Merge.l0 kj4 y334 l0 (l0.length : Int) (wrap64 (x9_1 + 1))) = some r := by first | (rw [hy334]; with_reducible exact H) | (have H2_ := (Option.bind_some _ _).symm.trans H; rw [hy334]; with_reducible exact H2_) | (have H2_ := (Option.bind_some _ _).symm.trans H; with_reducible exact H2_) | with_reducible exact H | (rw [hy334]; exact H) | exact H
         have Ny334 := Aside0.mk hy334
         clear hy334
         have H' := Aside0.mk H
         clear H
         obtain ⟨hcz34_0, hcz34_1, hcz34_2, hcz34_3, hcz34_4, hcz34_5, hcz34_6, hcz34_7⟩ := bc8 BK299.out
         obtain ⟨hfz34_0, hfz34_1, hfz34_2, hfz34_3, hfz34_4, hfz34_5, hfz34_6, hfz34_7⟩ := bf8 BK299.out
         go_wp2_with (first | ((with_reducible refine gate_callee (f := 47) rfl ?_); refine goesL_ (some 17) rfl rfl Try.func47 (by kernel_rfl) rfl #[.agg #[.int .i64 ((rd_T34 l0 x9_1).f0), .string ((rd_T34 l0 x9_1).f1), .string ((rd_T34 l0 x9_1).f2), .string ((rd_T34 l0 x9_1).f3), .slice A298_4 ((rd_T34 l0 x9_1).f4).length c298_4, .slice A298_5 ((rd_T34 l0 x9_1).f5).length c298_5, .slice A298_6 ((rd_T34 l0 x9_1).f6).length c298_6, .string ((rd_T34 l0 x9_1).f7)]] rfl mA ?_; (with_reducible refine (impl_cloneNode.callsD kj4 ((rd_T34 l0 x9_1).f0) ((rd_T34 l0 x9_1).f1) ((rd_T34 l0 x9_1).f2) ((rd_T34 l0 x9_1).f3) _ _ ((rd_T34 l0 x9_1).f4) _ _ ((rd_T34 l0 x9_1).f5) _ _ ((rd_T34 l0 x9_1).f6) ((rd_T34 l0 x9_1).f7) t320 t321 t322 t323 t324 t327 t330 t333 _ ?side1 ?side2 ?side3 ?side4 ?side5 ?side6 A32.out).mono ?_); (case side1 => repeat (first | exact (Kd.C_below HR298_4.out HB.out) | (with_reducible refine Kd.C_alloc ?_ _) | (with_reducible refine Kd.C_drewN ?_ _) | (with_reducible refine Kd.C_drew ?_))); (case side2 => exact HC298_4.out); (case side3 => repeat (first | exact (Kd.C_below HR298_5.out HB.out) | (with_reducible refine Kd.C_alloc ?_ _) | (with_reducible refine Kd.C_drewN ?_ _) | (with_reducible refine Kd.C_drew ?_))); (case side4 => exact HC298_5.out); (case side5 => repeat (first | exact (Kd.C_below HR298_6.out HB.out) | (with_reducible refine Kd.C_alloc ?_ _) | (with_reducible refine Kd.C_drewN ?_ _) | (with_reducible refine Kd.C_drew ?_))); (case side6 => exact HC298_6.out); rintro e w35 ⟨v325, v328, v331, rfl, ho0, ho1, ho2, hb⟩; refine ⟨_, rfl, ?_⟩; obtain ⟨N_, hNb, hN0, hN1, hN2, hN3⟩ : ∃ N : Nat, w.heap.size ≤ N ∧ Kd.R k88 88 w35 N (fun _ => True) v325 t324 ∧ Kd.R k90 90 w35 N (fun _ => True) v328 t327 ∧ Kd.S kD 34 w35 N (fun k_ => some k_ ≠ (v325 : Value).ownBlock ∧ some k_ ≠ (v328 : Value).ownBlock) v331 t330 ∧ Kd.S kD 34 w35 w.heap.size (fun k_ => k_ < N) (.slice Ao8 x3_1.length co8) x3_1 := ⟨_, below_size hB, ho0, ho1, ho2, Kd.S_mono (Kd.S_old (by (with_reducible repeat (first|apply rA|apply rN|apply rD|apply Kd.S_alloc|apply Kd.S_drewN|apply Kd.S_drew)); exact HO_3.out) hb) (fun _ h_ => h_.2)⟩; have HN_ := Aside0.mk (And.intro hNb (And.intro hN0 (And.intro hN1 (And.intro hN2 hN3)))); clear hNb hN0 hN1 hN2 hN3; have HO326 := Aside0.mk (Kd.R_lower ho0 (below_size hB)); have HO329 := Aside0.mk (Kd.R_lower ho1 (below_size hB)); have HO332 := Aside0.mk (Kd.S_lower (Kd.S_newB (Kd.S_new' ho2 (Kd.S_lt (by (with_reducible repeat (first|apply rA|apply rN|apply rD|apply Kd.S_alloc|apply Kd.S_drewN|apply Kd.S_drew)); exact HO_3.out))) (g := gb299) (by (with_reducible repeat (first | refine bN ?_ _|refine bD ?_|refine bA ?_ _)); exact BK299.out)) (below_size hB)); replace HO_3 := Aside0.mk (Kd.S_mono (Kd.S_told (Kd.S_told (Kd.S_told (Kd.S_old (by (with_reducible repeat (first|apply rA|apply rN|apply rD|apply Kd.S_alloc|apply Kd.S_drewN|apply Kd.S_drew)); exact HO_3.out) hb) (Kd.R_base ho0)) (Kd.R_base ho1)) (Kd.S_base ho2)) (fun _ h_ => h_.1)); replace BK299 := Aside0.mk (blk_below (g := gb299) (by (with_reducible repeat (first | refine bN ?_ _|refine bD ?_|refine bA ?_ _)); exact BK299.out) hb); replace HB := Aside0.mk (below_step hB hb); (try clear hb); (try clear hb2); (try clear hk); (try clear hi); (try clear ho0); (try clear ho1); (try clear ho2); obtain ⟨Ao37, co37, eo37⟩ := Kd.R_slice HO326.out; subst eo37; obtain ⟨Ao38, co38, eo38⟩ := Kd.R_slice HO329.out; subst eo38; obtain ⟨Ao39, co39, eo39⟩ := Kd.S_slice HO332.out; subst eo39) | ((with_reducible refine gate_builtin (b := .append) (xs := #[.tmp 15, .tmp 18]) rfl ?_); at_builtin; refine Kd.S_append kD (w0 := w) w.heap.size rfl (.tmp 15) (.tmp 18) 32 34 (.agg #[(.int .i64 0), (.string ⟨#[]⟩), (.string ⟨#[]⟩), (.string ⟨#[]⟩), (.slice none 0 0), (.slice none 0 0), (.slice none 0 0), (.string ⟨#[]⟩)]) 144 rfl Try.underlying32 info34 rfl (by decide) (by omega) (.slice Ao8 x3_1.length co8) x3_1 (⟨t320, t321, t322, t323, t324, t327, t330, t333⟩ : S34) [.int .i64 t320, .string t321, .string t322, .string t323, .slice Ao37 t324.length co37, .slice Ao38 t327.length co38, .slice Ao39 t330.length co39, .string t333] (fun _ => True) (fun k_ => N_ ≤ k_) rfl rfl ?aP (fun k_ hk_ => ⟨trivial, fun e_ => Nat.not_lt.2 hk_ ((Kd.S_R HN_.out.2.2.2.2).1 k_ e_.symm)⟩) ?aF ?aO ?aB ?aS ?aL ?_; (case aP => exact kD_elemM HN_.out.1 (⟨t320, t321, t322, t323, t324, t327, t330, t333⟩ : S34) HN_.out.2.1 HN_.out.2.2.1 HN_.out.2.2.2.1); (case aB => exact hB); (case aF => exact fun _ _ => trivial); (case aO => exact Kd.S_mono HN_.out.2.2.2.2 (fun k_ hk_ => ⟨trivial, Nat.not_le.2 hk_⟩)); (case aS => exact (below_size hB)); (case aL => have := LMc33.out; omega); intro v335 w36 ho hb hg hat; rw [← Ny334.out] at ho; replace BK299 := Aside0.mk (blk_grown (g := gb299) (by (with_reducible repeat (first | refine bN ?_ _|refine bD ?_|refine bA ?_ _)); exact BK299.out) hg (Kd.S_away HO_3.out (fun _ hk => hk.1.1.1))); replace HB := Aside0.mk (hb); have HO336 := Aside0.mk (ho); clear HO_3; clear HO326; clear HO329; clear HO332; clear ho hb hg hat))
         go_roundg kj4
         case measure => have := HK1.out; have := HJ4.out; omega
         case rel => exact ⟨(y334), (wrap64 (x9_1 + 1)), rG, H', ⟨by have := HK1.out; have := HJ4.out; omega⟩, ⟨by (with_reducible repeat (first|apply rA|apply rN|apply rD|apply Kd.S_alloc|apply Kd.S_drewN|apply Kd.S_drew)); exact Kd.S_mono HO336.out (fun _ hk => trivial)⟩, ⟨hB⟩⟩
       ·rw [if_neg c13] at H
        obtain ⟨c13b0, c13b1⟩ := eqF c13
        replace H := Option.bind_eq_some_iff.mp H
        obtain ⟨⟨t337, t338, t339, t340, t341, t344, t347, t350⟩, A400, H⟩ := H
        try dsimp only at H
        have A40 := Aside0.mk A400
        clear A400
        obtain ⟨c41, H⟩ := if_som H
        have LMc41 := Aside0.mk c41
        clear c41
        obtain ⟨y351, hy351⟩ : ∃ y_ : List (S34), y_ = (x3_1 ++ [(⟨t337, t338, t339, t340, t341, t344, t347, t350⟩ : S34)]) := ⟨_, rfl⟩
        replace H : (impl_Merge.l0 kj4 y351 l0 (l0.length : Int) (wrap64 (x9_1 + 1))) = some r := by first | (rw [hy351]; with_reducible exact H) | (have H2_ := (Option.bind_some _ _).symm.trans H; rw [hy351]; with_reducible exact H2_) | (have H2_ := (Option.bind_some _ _).symm.trans H; with_reducible exact H2_) | with_reducible exact H | (rw [hy351]; exact H) | exact H
        have Ny351 := Aside0.mk hy351
        clear hy351
        have H' := Aside0.mk H
        clear H
        obtain ⟨hcz42_0, hcz42_1, hcz42_2, hcz42_3, hcz42_4, hcz42_5, hcz42_6, hcz42_7⟩ := bc8 BK299.out
        obtain ⟨hfz42_0, hfz42_1, hfz42_2, hfz42_3, hfz42_4, hfz42_5, hfz42_6, hfz42_7⟩ := bf8 BK299.out
        go_wp2_with (first | ((with_reducible refine gate_callee (f := 47) rfl ?_); refine goesL_ (some 17) rfl rfl Try.func47 (by kernel_rfl) rfl #[.agg #[.int .i64 ((rd_T34 l0 x9_1).f0), .string ((rd_T34 l0 x9_1).f1), .string ((rd_T34 l0 x9_1).f2), .string ((rd_T34 l0 x9_1).f3), .slice A298_4 ((rd_T34 l0 x9_1).f4).length c298_4, .slice A298_5 ((rd_T34 l0 x9_1).f5).length c298_5, .slice A298_6 ((rd_T34 l0 x9_1).f6).length c298_6, .string ((rd_T34 l0 x9_1).f7)]] rfl mA ?_; (with_reducible refine (impl_cloneNode.callsD kj4 ((rd_T34 l0 x9_1).f0) ((rd_T34 l0 x9_1).f1) ((rd_T34 l0 x9_1).f2) ((rd_T34 l0 x9_1).f3) _ _ ((rd_T34 l0 x9_1).f4) _ _ ((rd_T34 l0 x9_1).f5) _ _ ((rd_T34 l0 x9_1).f6) ((rd_T34 l0 x9_1).f7) t337 t338 t339 t340 t341 t344 t347 t350 _ ?side1 ?side2 ?side3 ?side4 ?side5 ?side6 A40.out).mono ?_); (case side1 => repeat (first | exact (Kd.C_below HR298_4.out HB.out) | (with_reducible refine Kd.C_alloc ?_ _) | (with_reducible refine Kd.C_drewN ?_ _) | (with_reducible refine Kd.C_drew ?_))); (case side2 => exact HC298_4.out); (case side3 => repeat (first | exact (Kd.C_below HR298_5.out HB.out) | (with_reducible refine Kd.C_alloc ?_ _) | (with_reducible refine Kd.C_drewN ?_ _) | (with_reducible refine Kd.C_drew ?_))); (case side4 => exact HC298_5.out); (case side5 => repeat (first | exact (Kd.C_below HR298_6.out HB.out) | (with_reducible refine Kd.C_alloc ?_ _) | (with_reducible refine Kd.C_drewN ?_ _) | (with_reducible refine Kd.C_drew ?_))); (case side6 => exact HC298_6.out); rintro e w43 ⟨v342, v345, v348, rfl, ho0, ho1, ho2, hb⟩; refine ⟨_, rfl, ?_⟩; obtain ⟨N_, hNb, hN0, hN1, hN2, hN3⟩ : ∃ N : Nat, w.heap.size ≤ N ∧ Kd.R k88 88 w43 N (fun _ => True) v342 t341 ∧ Kd.R k90 90 w43 N (fun _ => True) v345 t344 ∧ Kd.S kD 34 w43 N (fun k_ => some k_ ≠ (v342 : Value).ownBlock ∧ some k_ ≠ (v345 : Value).ownBlock) v348 t347 ∧ Kd.S kD 34 w43 w.heap.size (fun k_ => k_ < N) (.slice Ao8 x3_1.length co8) x3_1 := ⟨_, below_size hB, ho0, ho1, ho2, Kd.S_mono (Kd.S_old (by (with_reducible repeat (first|apply rA|apply rN|apply rD|apply Kd.S_alloc|apply Kd.S_drewN|apply Kd.S_drew)); exact HO_3.out) hb) (fun _ h_ => h_.2)⟩; have HN_ := Aside0.mk (And.intro hNb (And.intro hN0 (And.intro hN1 (And.intro hN2 hN3)))); clear hNb hN0 hN1 hN2 hN3; have HO343 := Aside0.mk (Kd.R_lower ho0 (below_size hB)); have HO346 := Aside0.mk (Kd.R_lower ho1 (below_size hB)); have HO349 := Aside0.mk (Kd.S_lower (Kd.S_newB (Kd.S_new' ho2 (Kd.S_lt (by (with_reducible repeat (first|apply rA|apply rN|apply rD|apply Kd.S_alloc|apply Kd.S_drewN|apply Kd.S_drew)); exact HO_3.out))) (g := gb299) (by (with_reducible repeat (first | refine bN ?_ _|refine bD ?_|refine bA ?_ _)); exact BK299.out)) (below_size hB)); replace HO_3 := Aside0.mk (Kd.S_mono (Kd.S_told (Kd.S_told (Kd.S_told (Kd.S_old (by (with_reducible repeat (first|apply rA|apply rN|apply rD|apply Kd.S_alloc|apply Kd.S_drewN|apply Kd.S_drew)); exact HO_3.out) hb) (Kd.R_base ho0)) (Kd.R_base ho1)) (Kd.S_base ho2)) (fun _ h_ => h_.1)); replace BK299 := Aside0.mk (blk_below (g := gb299) (by (with_reducible repeat (first | refine bN ?_ _|refine bD ?_|refine bA ?_ _)); exact BK299.out) hb); replace HB := Aside0.mk (below_step hB hb); (try clear hb); (try clear hb2); (try clear hk); (try clear hi); (try clear ho0); (try clear ho1); (try clear ho2); obtain ⟨Ao45, co45, eo45⟩ := Kd.R_slice HO343.out; subst eo45; obtain ⟨Ao46, co46, eo46⟩ := Kd.R_slice HO346.out; subst eo46; obtain ⟨Ao47, co47, eo47⟩ := Kd.S_slice HO349.out; subst eo47) | ((with_reducible refine gate_builtin (b := .append) (xs := #[.tmp 15, .tmp 18]) rfl ?_); at_builtin; refine Kd.S_append kD (w0 := w) w.heap.size rfl (.tmp 15) (.tmp 18) 32 34 (.agg #[(.int .i64 0), (.string ⟨#[]⟩), (.string ⟨#[]⟩), (.string ⟨#[]⟩), (.slice none 0 0), (.slice none 0 0), (.slice none 0 0), (.string ⟨#[]⟩)]) 144 rfl Try.underlying32 info34 rfl (by decide) (by omega) (.slice Ao8 x3_1.length co8) x3_1 (⟨t337, t338, t339, t340, t341, t344, t347, t350⟩ : S34) [.int .i64 t337, .string t338, .string t339, .string t340, .slice Ao45 t341.length co45, .slice Ao46 t344.length co46, .slice Ao47 t347.length co47, .string t350] (fun _ => True) (fun k_ => N_ ≤ k_) rfl rfl ?aP (fun k_ hk_ => ⟨trivial, fun e_ => Nat.not_lt.2 hk_ ((Kd.S_R HN_.out.2.2.2.2).1 k_ e_.symm)⟩) ?aF ?aO ?aB ?aS ?aL ?_; (case aP => exact kD_elemM HN_.out.1 (⟨t337, t338, t339, t340, t341, t344, t347, t350⟩ : S34) HN_.out.2.1 HN_.out.2.2.1 HN_.out.2.2.2.1); (case aB => exact hB); (case aF => exact fun _ _ => trivial); (case aO => exact Kd.S_mono HN_.out.2.2.2.2 (fun k_ hk_ => ⟨trivial, Nat.not_le.2 hk_⟩)); (case aS => exact (below_size hB)); (case aL => have := LMc41.out; omega); intro v352 w44 ho hb hg hat; rw [← Ny351.out] at ho; replace BK299 := Aside0.mk (blk_grown (g := gb299) (by (with_reducible repeat (first | refine bN ?_ _|refine bD ?_|refine bA ?_ _)); exact BK299.out) hg (Kd.S_away HO_3.out (fun _ hk => hk.1.1.1))); replace HB := Aside0.mk (hb); have HO353 := Aside0.mk (ho); clear HO_3; clear HO343; clear HO346; clear HO349; clear ho hb hg hat))
        go_roundg kj4
        case measure => have := HK1.out; have := HJ4.out; omega
        case rel => exact ⟨(y351), (wrap64 (x9_1 + 1)), rG, H', ⟨by have := HK1.out; have := HJ4.out; omega⟩, ⟨by (with_reducible repeat (first|apply rA|apply rN|apply rD|apply Kd.S_alloc|apply Kd.S_drewN|apply Kd.S_drew)); exact Kd.S_mono HO353.out (fun _ hk => trivial)⟩, ⟨hB⟩⟩
   ·rw [if_neg c2] at H
    have c2b0 : decide (x9_1 < (l0.length : Int)) = false := decide_eq_false c2
    clear c2
    obtain rfl := Option.some.inj H
    go_wp2
    go_ret
    exact ⟨_, rE, by (with_reducible repeat (first|apply rA|apply rN|apply rD|apply Kd.S_alloc|apply Kd.S_drewN|apply Kd.S_drew)); exact HO_3.out, hB⟩
theorem impl_Merge.calls (k : Nat) (A0 : Option Addr) (c0 : Nat) (l0 : List (S34)) (r : List (S34)) (w : World) (hr0 : Kd.C k34 w A0 l0.length l0) (hc0 : l0.length ≤ c0) (h : impl_Merge.f k l0 = some r) :
  Calls Try.prog 20 #[.slice A0 l0.length c0] w fun e w' => ∃ v0_ : Value, e = .returned (v0_) ∧ Kd.R k34 34 w' w.heap.size (fun _ => True) v0_ r ∧ Below w.heap.size w w' := by
  refine (impl_Merge.callsD k A0 c0 l0 r w hr0 hc0 h).mono ?_
  rintro e w' ⟨v, rfl, h1, h2⟩
  exact ⟨v, rfl, kD_toR h1, h2⟩

/-! ### laws_eqDecl: function 68 -/
def laws_eqDecl.f (a0_0 : ByteArray) (a0_1 : ByteArray) (a1_0 : ByteArray) (a1_1 : ByteArray) : Option (Bool) := if a0_0.toList = a1_0.toList then (if a0_1.toList = a1_1.toList then (some true) else (some false)) else (some false)
theorem laws_eqDecl.calls (a0_0 : ByteArray) (a0_1 : ByteArray) (a1_0 : ByteArray) (a1_1 : ByteArray) (r_ : Bool) (w : World) (h : laws_eqDecl.f a0_0 a0_1 a1_0 a1_1 = some true) :
  Calls Try.prog 68 #[.agg #[.string a0_0, .string a0_1], .agg #[.string a1_0, .string a1_1]] w fun e w' => e = .returned (.bool true) ∧ Below w.heap.size w w' := by
 have hu88 := Try.underlying88
 have HB := Aside0.mk (Below.refl w.heap.size w)
 have H : (if a0_0.toList = a1_0.toList then (if a0_1.toList = a1_1.toList then (some true) else (some false)) else (some false)) = some true := h
 clear h
 go_enter Try.func68, Try.ntmps68
 go_wp2_with (first | ((with_reducible refine gate_dst (N := 2) rfl ?_); refine box_event ?hg (N := 2) ?hd (cs := #[.string a0_0, .string a0_1]) (t := 88) ?hr ?_; (case hd => rfl); (case hg => rfl); (case hr => first | (go_simp; done) | (go_simp; rfl)); intro gb354 hg w3 hbox hb; have BK354 := Aside0.mk (hbox); have GW354 := Aside0.mk ((by rw [hg]; exact (below_size hB) : w.heap.size ≤ gb354)); have GE354 := Aside0.mk ((by rw [hg]; exact (below_size hB) : w.heap.size ≤ gb354)); replace HB := Aside0.mk (below_step hB hb); clear hb hbox hg) | ((with_reducible refine gate_dst (N := 3) rfl ?_); refine box_event ?hg (N := 3) ?hd (cs := #[.string a1_0, .string a1_1]) (t := 88) ?hr ?_; (case hd => rfl); (case hg => rfl); (case hr => first | (go_simp; done) | (go_simp; rfl)); intro gb355 hg w4 hbox hb; have BK355 := Aside0.mk (hbox); have GW355 := Aside0.mk ((by rw [hg]; exact (below_size hB) : w.heap.size ≤ gb355)); have GE355 := Aside0.mk ((by rw [hg]; exact (below_size hB) : w.heap.size ≤ gb355)); replace HB := Aside0.mk (below_step hB hb); have NB354_355 := Aside0.mk ((by rw [hg]; exact Nat.ne_of_lt (blk_lt (g := gb354) (by (with_reducible repeat (first | refine bN ?_ _|refine bD ?_|refine bA ?_ _)); exact BK354.out)) : gb354 ≠ gb355)); have NB355_354 := Aside0.mk ((by rw [hg]; exact Nat.ne_of_gt (blk_lt (g := gb354) (by (with_reducible repeat (first | refine bN ?_ _|refine bD ?_|refine bA ?_ _)); exact BK354.out)) : gb355 ≠ gb354)); replace BK354 := Aside0.mk (blk_below (g := gb354) (by (with_reducible repeat (first | refine bN ?_ _|refine bD ?_|refine bA ?_ _)); exact BK354.out) hb); clear hb hbox hg; have hnb5 := NB354_355.out; have hnc5 := NB355_354.out; obtain ⟨hcz6_0, hcz6_1⟩ := bc2 BK354.out; obtain ⟨hcz7_0, hcz7_1⟩ := bc2 BK355.out; refine halt_ ?_; intro q_ hq_))
 obtain ⟨rfl⟩ := hq_
 by_cases c8 : a0_0.toList = a1_0.toList
 ·rw [if_pos c8] at H
  have c8b0 : (a0_0.toList == a1_0.toList) = true := beq_iff_eq.mpr c8
  have c8b1 : (a0_0.toList != a1_0.toList) = false := bne_eq_false_iff_eq.mpr c8
  clear c8
  by_cases c9 : a0_1.toList = a1_1.toList
  ·rw [if_pos c9] at H
   have c9b0 : (a0_1.toList == a1_1.toList) = true := beq_iff_eq.mpr c9
   have c9b1 : (a0_1.toList != a1_1.toList) = false := bne_eq_false_iff_eq.mpr c9
   clear c9
   first | obtain rfl := Option.some.inj H | clear H
   have hnb10 := NB354_355.out
   have hnc10 := NB355_354.out
   obtain ⟨hcz11_0, hcz11_1⟩ := bc2 BK354.out
   obtain ⟨hcz12_0, hcz12_1⟩ := bc2 BK355.out
   go_wp2
   go_ret
   exact ⟨rE, hB⟩
  ·rw [if_neg c9] at H
   exact absurd H (by simp)
 ·rw [if_neg c8] at H
  exact absurd H (by simp)
/-! ### laws_eqDeclS: function 41 -/
def laws_eqDeclS.l0 : Nat → List (S88) → List (S88) → Int → Option (Bool)
 | 0, _, _, _ => none
 | k + 1, x0, x1, x5 => if x5 < (x0.length : Int) then (if 0 ≤ x5 then (if x5 < (x1.length : Int) then ((laws_eqDecl.f ((rd_T88 x0 x5).f0) ((rd_T88 x0 x5).f1) ((rd_T88 x1 x5).f0) ((rd_T88 x1 x5).f1)).bind fun t358 => (if t358 = true then (laws_eqDeclS.l0 k x0 x1 (wrap64 (x5 + 1))) else (some false))) else (none)) else (none)) else (some true)
def laws_eqDeclS.f (k : Nat) (l0 : List (S88)) (l1 : List (S88)) : Option (Bool) := if (l0.length : Int) = (l1.length : Int) then (laws_eqDeclS.l0 k l0 l1 0) else (some false)
theorem laws_eqDeclS.mono_l : ∀ k, (∀ y0 y1 y2, LeO (laws_eqDeclS.l0 k y0 y1 y2) (laws_eqDeclS.l0 (k + 1) y0 y1 y2))
 | 0 => fun _ _ _ r h => by simp [laws_eqDeclS.l0] at h
 | k + 1 => by
  have ih0 := laws_eqDeclS.mono_l k
  ·intro y0 y1 y2
   unfold laws_eqDeclS.l0
   repeat' first
   | (with_reducible exact ih0 _ _ _)
   | (with_reducible exact LeO.refl _)
   | (with_reducible exact LeO.none _)
   | (with_reducible refine LeO.ite ?_ ?_)
   | (with_reducible refine LeO.bind ?_ (fun _ => ?_))
   | exact ih0 _ _ _
   | exact LeO.none _
   | refine LeO.ite ?_ ?_
   | refine LeO.bind ?_ (fun _ => ?_)
theorem laws_eqDeclS.mono : ∀ a0 a1 k, LeO (laws_eqDeclS.f k a0 a1) (laws_eqDeclS.f (k + 1) a0 a1) := by
 intro a0 a1 k
 have ih0 := laws_eqDeclS.mono_l k
 unfold laws_eqDeclS.f
 repeat' first
   | (with_reducible exact ih0 _ _ _)
   | (with_reducible exact LeO.refl _)
   | (with_reducible exact LeO.none _)
   | (with_reducible refine LeO.ite ?_ ?_)
   | (with_reducible refine LeO.bind ?_ (fun _ => ?_))
   | exact ih0 _ _ _
   | exact LeO.none _
   | refine LeO.ite ?_ ?_
   | refine LeO.bind ?_ (fun _ => ?_)
def laws_eqDeclS.T6 : Bool × List (List Nat × List Nat) := (true, [([], []), ([], []), ([0, 1], [0, 1]), ([2], [2]), ([], []), ([], []), ([4, 5], [4, 5]), ([6], [6]), ([3, 7], [3, 7]), ([8], [8])])
def laws_eqDeclS.B6 : List Nat := [0, 0, 3, 7, 0, 0, 48, 112, 255, 511]
theorem laws_eqDeclS.tab6 : rtab .any (opsOf Try.f41 6) = laws_eqDeclS.T6 := by kernel_rfl
theorem laws_eqDeclS.bits6 : waitsOk laws_eqDeclS.T6.2 laws_eqDeclS.B6 = true := by kernel_rfl
theorem laws_eqDeclS.calls (k : Nat) (A0 : Option Addr) (c0 : Nat) (l0 : List (S88)) (A1 : Option Addr) (c1 : Nat) (l1 : List (S88)) (r_ : Bool) (w : World) (hr0 : Kd.C k88 w A0 l0.length l0) (hc0 : l0.length ≤ c0) (hr1 : Kd.C k88 w A1 l1.length l1) (hc1 : l1.length ≤ c1) (h : laws_eqDeclS.f k l0 l1 = some true) :
  Calls Try.prog 41 #[.slice A0 l0.length c0, .slice A1 l1.length c1] w fun e w' => e = .returned (.bool true) ∧ Below w.heap.size w w' := by
 have hu88 := Try.underlying88
 have HR0 := Aside0.mk hr0
 have HC0 := Aside0.mk hc0
 clear hr0 hc0
 have HR1 := Aside0.mk hr1
 have HC1 := Aside0.mk hc1
 clear hr1 hc1
 have HB := Aside0.mk (Below.refl w.heap.size w)
 have H : (if (l0.length : Int) = (l1.length : Int) then (laws_eqDeclS.l0 k l0 l1 0) else (some false)) = some true := h
 clear h
 by_cases c3 : (l0.length : Int) = (l1.length : Int)
 ·rw [if_pos c3] at H
  have c3b0 : ((l0.length : Int) == (l1.length : Int)) = true := beq_iff_eq.mpr c3
  have c3b1 : ((l0.length : Int) != (l1.length : Int)) = false := bne_eq_false_iff_eq.mpr c3
  have c3b2 : (l0.length == l1.length) = true := by first | simpa using c3 | (simp at c3 ⊢; omega)
  clear c3
  have H' := Aside0.mk H
  clear H
  go_enter Try.func41, Try.ntmps41
  go_wp2
  go_loopg [5] k (fun kq v5 w' => ∃ (x5_1 : Int), v5 = .int .i64 x5_1 ∧ Aside0 (laws_eqDeclS.l0 kq l0 l1 x5_1 = some true) ∧ Aside0 (kq ≤ k) ∧ Aside0 (Below w.heap.size w w'))
  case atStart => exact ⟨(0), rG, H', ⟨Nat.le_refl _⟩, ⟨hB⟩⟩
  case round =>
   clear H'
   try clear c3; try clear c3b2; try clear c3b1; try clear c3b0
   obtain ⟨x5_1, rfl, HA, HK1, HB⟩ := hrel
   cases gk with
   | zero => exact absurd HA.out (by simp [laws_eqDeclS.l0])
   | succ k1 =>
    have H := HA.out
    clear HA
    simp only [laws_eqDeclS.l0] at H
    by_cases c4 : x5_1 < (l0.length : Int)
    ·rw [if_pos c4] at H
     have c4b0 : decide (x5_1 < (l0.length : Int)) = true := decide_eq_true c4
     clear c4
     by_cases c5 : 0 ≤ x5_1
     ·rw [if_pos c5] at H
      have c5b0 : decide (0 ≤ x5_1) = true := decide_eq_true c5
      clear c5
      by_cases c6 : x5_1 < (l1.length : Int)
      ·rw [if_pos c6] at H
       have c6b0 : decide (x5_1 < (l1.length : Int)) = true := decide_eq_true c6
       clear c6
       replace H := Option.bind_eq_some_iff.mp H
       obtain ⟨t358, A70, H⟩ := H
       try dsimp only at H
       have A7 := Aside0.mk A70
       clear A70
       by_cases c8 : t358 = true
       ·subst c8
        rw [if_pos rfl] at H
        have H' := Aside0.mk H
        clear H
        try go_wp2
        replace HB := Aside0.mk (below_drew1 HB.out)
        have p356 : 0 ≤ (x5_1 : Int) := odt
        have q356 : x5_1 < (l0.length : Int) := odt
        obtain ⟨ad356, e356, hx356_0, hx356_1⟩ := at_T88 HR0.out x5_1 p356 q356
        have hw356_1 := hx356_1
        have hw356_0 := hx356_0
        cases e356
        replace hx356_0 := pw_cell_below HB.out hx356_0
        replace hx356_1 := pw_cell_below HB.out hx356_1
        replace p356 := eq_true p356
        replace q356 := eq_true q356
        have p357 : 0 ≤ (x5_1 : Int) := odt
        have q357 : x5_1 < (l1.length : Int) := odt
        obtain ⟨ad357, e357, hx357_0, hx357_1⟩ := at_T88 HR1.out x5_1 p357 q357
        have hw357_1 := hx357_1
        have hw357_0 := hx357_0
        cases e357
        replace hx357_0 := pw_cell_below HB.out hx357_0
        replace hx357_1 := pw_cell_below HB.out hx357_1
        replace p357 := eq_true p357
        replace q357 := eq_true q357
        refine start_ (n := 10) (S := fun w' => w'.cell? (ad356.add ((x5_1).toNat * 2)) = some (.string ((rd_T88 l0 x5_1).f0)) ∧ w'.cell? ⟨(ad356.add ((x5_1).toNat * 2)).block, (ad356.add ((x5_1).toNat * 2)).off + 1, none⟩ = some (.string ((rd_T88 l0 x5_1).f1)) ∧ w'.cell? (ad357.add ((x5_1).toNat * 2)) = some (.string ((rd_T88 l1 x5_1).f0)) ∧ w'.cell? ⟨(ad357.add ((x5_1).toNat * 2)).block, (ad357.add ((x5_1).toNat * 2)).off + 1, none⟩ = some (.string ((rd_T88 l1 x5_1).f1))) (ds := []) #[false, false, false, false, false, false, false, false, false, false] (by kernel_rfl) rfl rfl ⟨(pw_cell_below HB.out hw356_0), (pw_cell_below HB.out hw356_1), (pw_cell_below HB.out hw357_0), (pw_cell_below HB.out hw357_1)⟩ (fun hHeld => ?_); refine with_tabW laws_eqDeclS.tab6 laws_eqDeclS.bits6 (fun HT_ HW_ => ?_)
        generalize wr.drew = w9 at HB hx356_0 hx356_1 hx357_0 hx357_1 hHeld ⊢
        refine pU 0 17 (tf 1 9) ?_
        refine pU 1 18 (tf 2 8) ?_
        refine pU 2 19 (tf 3 7) ?_
        refine pU 4 21 #[true, true, true, false, true, false, false, false, false, false] ?_
        refine pU 5 22 #[true, true, true, false, true, true, false, false, false, false] ?_
        refine pU 6 23 #[true, true, true, false, true, true, true, false, false, false] ?_
        refine take_ (i := 3) (N := some 20) (v := ?_) (a' := ?_) (tf 7 3) rfl rfl (take_ofW HT_.out HW_.out (by kernel_rfl)) (fun _ _ _ h => h) (Or.inl ⟨by rfl, ?_⟩) hHeld ?_ ?_
        rotate_left
        ·rintro w' ⟨s0, s1, s2, s3⟩
         go_simp
         with_reducible rfl
        rotate_left
        ·simp only [Act.put, sT, sZ, sS, i64_w, i32_w]
         rfl
        refine take_ (i := 7) (N := some 24) (v := ?_) (a' := ?_) (tf 8 2) rfl rfl (take_ofW HT_.out HW_.out (by kernel_rfl)) (fun _ _ _ h => h) (Or.inl ⟨by rfl, ?_⟩) hHeld ?_ ?_
        rotate_left
        ·rintro w' ⟨s0, s1, s2, s3⟩
         go_simp
         with_reducible rfl
        rotate_left
        ·simp only [Act.put, sT, sZ, sS, i64_w, i32_w]
         rfl
        refine one_ (i := 8) (N := some 25) (tf 9 1) rfl rfl (one_of HT_.out (by kernel_rfl)) (by decide) (fun K hK => ?_)
        refine goes_ Try.func68 (by kernel_rfl) rfl #[.agg #[.string ((rd_T88 l0 x5_1).f0), .string ((rd_T88 l0 x5_1).f1)], .agg #[.string ((rd_T88 l1 x5_1).f0), .string ((rd_T88 l1 x5_1).f1)]] (by rfl) rfl rfl mA ?_
        with_reducible refine (laws_eqDecl.calls ((rd_T88 l0 x5_1).f0) ((rd_T88 l0 x5_1).f1) ((rd_T88 l1 x5_1).f0) ((rd_T88 l1 x5_1).f1) true _ A7.out).mono ?_
        rintro e w10 ⟨rfl, hb⟩
        refine ⟨_, rfl, ?_⟩
        replace HB := Aside0.mk (below_step hB hb)
        (try clear hb)
        (try clear hb2)
        (try clear hk)
        (try clear hi)
        refine hK.out _ _ ⟨(pw_cell_below HB.out hw356_0), (pw_cell_below HB.out hw356_1), (pw_cell_below HB.out hw357_0), (pw_cell_below HB.out hw357_1)⟩ (fun hHeld => ?_)
        clear hK K
        refine norm_ (a' := ?_) ?_ ?_
        rotate_left
        ·show Act.put _ (some 25) _ = _
         simp only [Act.put, sT, sZ, sS, i64_w, i32_w]
         rfl
        refine pU 9 26 (tf 10 0) ?_
        refine done_ (done_of HT_.out (by kernel_rfl)) ?_
        try go_wp2
        go_roundg k1
        case measure => have := HK1.out; omega
        case rel => exact ⟨(wrap64 (x5_1 + 1)), rG, H', ⟨by have := HK1.out; omega⟩, ⟨hB⟩⟩
       ·rw [if_neg c8] at H
        exact absurd H (by simp)
      ·rw [if_neg c6] at H
       exact absurd H (by simp)
     ·rw [if_neg c5] at H
      exact absurd H (by simp)
    ·rw [if_neg c4] at H
     have c4b0 : decide (x5_1 < (l0.length : Int)) = false := decide_eq_false c4
     clear c4
     first | obtain rfl := Option.some.inj H | clear H
     go_wp2
     go_ret
     exact ⟨rE, hB⟩
 ·rw [if_neg c3] at H
  exact absurd H (by simp)
/-! ### laws_eqAttr: function 69 -/
def laws_eqAttr.f (a0_0 : ByteArray) (a0_1 : ByteArray) (a0_2 : ByteArray) (a0_3 : ByteArray) (a1_0 : ByteArray) (a1_1 : ByteArray) (a1_2 : ByteArray) (a1_3 : ByteArray) : Option (Bool) := if a0_0.toList = a1_0.toList then (if a0_1.toList = a1_1.toList then (if a0_2.toList = a1_2.toList then (if a0_3.toList = a1_3.toList then (some true) else (some false)) else (some false)) else (some false)) else (some false)
theorem laws_eqAttr.calls (a0_0 : ByteArray) (a0_1 : ByteArray) (a0_2 : ByteArray) (a0_3 : ByteArray) (a1_0 : ByteArray) (a1_1 : ByteArray) (a1_2 : ByteArray) (a1_3 : ByteArray) (r_ : Bool) (w : World) (h : laws_eqAttr.f a0_0 a0_1 a0_2 a0_3 a1_0 a1_1 a1_2 a1_3 = some true) :
  Calls Try.prog 69 #[.agg #[.string a0_0, .string a0_1, .string a0_2, .string a0_3], .agg #[.string a1_0, .string a1_1, .string a1_2, .string a1_3]] w fun e w' => e = .returned (.bool true) ∧ Below w.heap.size w w' := by
 have hu90 := Try.underlying90
 have HB := Aside0.mk (Below.refl w.heap.size w)
 have H : (if a0_0.toList = a1_0.toList then (if a0_1.toList = a1_1.toList then (if a0_2.toList = a1_2.toList then (if a0_3.toList = a1_3.toList then (some true) else (some false)) else (some false)) else (some false)) else (some false)) = some true := h
 clear h
 go_enter Try.func69, Try.ntmps69
 go_wp2_with (first | ((with_reducible refine gate_dst (N := 2) rfl ?_); refine box_event ?hg (N := 2) ?hd (cs := #[.string a0_0, .string a0_1, .string a0_2, .string a0_3]) (t := 90) ?hr ?_; (case hd => rfl); (case hg => rfl); (case hr => first | (go_simp; done) | (go_simp; rfl)); intro gb359 hg w3 hbox hb; have BK359 := Aside0.mk (hbox); have GW359 := Aside0.mk ((by rw [hg]; exact (below_size hB) : w.heap.size ≤ gb359)); have GE359 := Aside0.mk ((by rw [hg]; exact (below_size hB) : w.heap.size ≤ gb359)); replace HB := Aside0.mk (below_step hB hb); clear hb hbox hg) | ((with_reducible refine gate_dst (N := 3) rfl ?_); refine box_event ?hg (N := 3) ?hd (cs := #[.string a1_0, .string a1_1, .string a1_2, .string a1_3]) (t := 90) ?hr ?_; (case hd => rfl); (case hg => rfl); (case hr => first | (go_simp; done) | (go_simp; rfl)); intro gb360 hg w4 hbox hb; have BK360 := Aside0.mk (hbox); have GW360 := Aside0.mk ((by rw [hg]; exact (below_size hB) : w.heap.size ≤ gb360)); have GE360 := Aside0.mk ((by rw [hg]; exact (below_size hB) : w.heap.size ≤ gb360)); replace HB := Aside0.mk (below_step hB hb); have NB359_360 := Aside0.mk ((by rw [hg]; exact Nat.ne_of_lt (blk_lt (g := gb359) (by (with_reducible repeat (first | refine bN ?_ _|refine bD ?_|refine bA ?_ _)); exact BK359.out)) : gb359 ≠ gb360)); have NB360_359 := Aside0.mk ((by rw [hg]; exact Nat.ne_of_gt (blk_lt (g := gb359) (by (with_reducible repeat (first | refine bN ?_ _|refine bD ?_|refine bA ?_ _)); exact BK359.out)) : gb360 ≠ gb359)); replace BK359 := Aside0.mk (blk_below (g := gb359) (by (with_reducible repeat (first | refine bN ?_ _|refine bD ?_|refine bA ?_ _)); exact BK359.out) hb); clear hb hbox hg; have hnb5 := NB359_360.out; have hnc5 := NB360_359.out; obtain ⟨hcz6_0, hcz6_1, hcz6_2, hcz6_3⟩ := bc4 BK359.out; obtain ⟨hcz7_0, hcz7_1, hcz7_2, hcz7_3⟩ := bc4 BK360.out; refine halt_ ?_; intro q_ hq_))
 obtain ⟨rfl⟩ := hq_
 by_cases c8 : a0_0.toList = a1_0.toList
 ·rw [if_pos c8] at H
  have c8b0 : (a0_0.toList == a1_0.toList) = true := beq_iff_eq.mpr c8
  have c8b1 : (a0_0.toList != a1_0.toList) = false := bne_eq_false_iff_eq.mpr c8
  clear c8
  by_cases c9 : a0_1.toList = a1_1.toList
  ·rw [if_pos c9] at H
   have c9b0 : (a0_1.toList == a1_1.toList) = true := beq_iff_eq.mpr c9
   have c9b1 : (a0_1.toList != a1_1.toList) = false := bne_eq_false_iff_eq.mpr c9
   clear c9
   by_cases c10 : a0_2.toList = a1_2.toList
   ·rw [if_pos c10] at H
    have c10b0 : (a0_2.toList == a1_2.toList) = true := beq_iff_eq.mpr c10
    have c10b1 : (a0_2.toList != a1_2.toList) = false := bne_eq_false_iff_eq.mpr c10
    clear c10
    by_cases c11 : a0_3.toList = a1_3.toList
    ·rw [if_pos c11] at H
     have c11b0 : (a0_3.toList == a1_3.toList) = true := beq_iff_eq.mpr c11
     have c11b1 : (a0_3.toList != a1_3.toList) = false := bne_eq_false_iff_eq.mpr c11
     clear c11
     first | obtain rfl := Option.some.inj H | clear H
     have hnb12 := NB359_360.out
     have hnc12 := NB360_359.out
     obtain ⟨hcz13_0, hcz13_1, hcz13_2, hcz13_3⟩ := bc4 BK359.out
     obtain ⟨hcz14_0, hcz14_1, hcz14_2, hcz14_3⟩ := bc4 BK360.out
     go_wp2
     go_ret
     exact ⟨rE, hB⟩
    ·rw [if_neg c11] at H
     exact absurd H (by simp)
   ·rw [if_neg c10] at H
    exact absurd H (by simp)
  ·rw [if_neg c9] at H
   exact absurd H (by simp)
 ·rw [if_neg c8] at H
  exact absurd H (by simp)
end Go.Proofs.Ytdbinpeglamnnaa.PX
