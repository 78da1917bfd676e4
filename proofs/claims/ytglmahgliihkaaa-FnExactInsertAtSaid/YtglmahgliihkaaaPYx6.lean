-- Written by the session's program hprint.py, over the kit's print program. Lean checks it.
import Derived.Test.YtglmahgliihkaaaPYx0
import Derived.Test.YtglmahgliihkaaaPYx4
import Derived.Test.YtglmahgliihkaaaPYx5
namespace Go.Proofs.Ytglmahgliihkaaa.PY
open Go.RowKit Go.Proofs.YtglmahgliihkaaaW.PrintWords Go.Proofs.YtglmahgliihkaaaW.PrintLast Go.Proofs.YtglmahgliihkaaaW.PrintMore
attribute [local go_sem] max2_int min2_int max_two min_two max_three min_three max_four min_four   -- for this text's walks alone
set_option linter.unusedVariables false
set_option linter.unusedSimpArgs false
set_option maxHeartbeats 8000000
set_option maxRecDepth 100000

/-! ### impl_Merge: function 49 -/
mutual
def impl_Merge.l0 : Nat → List (S34) → List (S34) → Int → Int → Option ((List (S34)))
 | 0, _, _, _, _ => none
 | k + 1, x3, x7, x8, x9 => if x9 < x8 then (if 0 ≤ x9 then (if x9 < (x7.length : Int) then (if ((rd_T34 x7 x9).f0) = 2 then (impl_Merge.j1 k x3 (x3.length : Int) x7 x8 x9 (((rd_T34 x7 x9).f7).toList == ([] : List UInt8)) ((rd_T34 x7 x9).f0) ((rd_T34 x7 x9).f1) ((rd_T34 x7 x9).f2) ((rd_T34 x7 x9).f3) ((rd_T34 x7 x9).f4) ((rd_T34 x7 x9).f5) ((rd_T34 x7 x9).f6) ((rd_T34 x7 x9).f7)) else (impl_Merge.j1 k x3 (x3.length : Int) x7 x8 x9 false ((rd_T34 x7 x9).f0) ((rd_T34 x7 x9).f1) ((rd_T34 x7 x9).f2) ((rd_T34 x7 x9).f3) ((rd_T34 x7 x9).f4) ((rd_T34 x7 x9).f5) ((rd_T34 x7 x9).f6) ((rd_T34 x7 x9).f7))) else (none)) else (none)) else (some x3)
def impl_Merge.j1 : Nat → List (S34) → Int → List (S34) → Int → Int → Bool → Int → ByteArray → ByteArray → ByteArray → List (S69) → List (S71) → List (S34) → ByteArray → Option ((List (S34)))
 | 0, _, _, _, _, _, _, _, _, _, _, _, _, _, _ => none
 | k + 1, x3, x6, x7, x8, x9, x20, x345000, x345001, x345002, x345003, x345004, x345005, x345006, x345007 => if x20 = true then (impl_Merge.l0 k x3 x7 x8 (wrap64 (x9 + 1))) else (if x345000 = 2 then (if x6 > 0 then (if 0 ≤ (wrap64 (x6 - 1)) then (if (wrap64 (x6 - 1)) < (x3.length : Int) then (if ((rd_T34 x3 (wrap64 (x6 - 1))).f0) = 2 then (if ((rd_T34 x3 (wrap64 (x6 - 1))).f7).size + x345007.size ≤ 9223372036854775807 then (impl_Merge.l0 k (x3.set ((wrap64 (x6 - 1)) : Int).toNat (⟨(rd_T34 x3 (wrap64 (x6 - 1))).f0, (rd_T34 x3 (wrap64 (x6 - 1))).f1, (rd_T34 x3 (wrap64 (x6 - 1))).f2, (rd_T34 x3 (wrap64 (x6 - 1))).f3, (rd_T34 x3 (wrap64 (x6 - 1))).f4, (rd_T34 x3 (wrap64 (x6 - 1))).f5, (rd_T34 x3 (wrap64 (x6 - 1))).f6, ((rd_T34 x3 (wrap64 (x6 - 1))).f7) ++ x345007⟩ : S34)) x7 x8 (wrap64 (x9 + 1))) else (none)) else ((impl_cloneNode.f k x345000 x345001 x345002 x345003 x345004 x345005 x345006 x345007).bind fun bt348 => (if x3.length < 977343669134 then (impl_Merge.l0 k (x3 ++ [(⟨bt348.1, bt348.2.1, bt348.2.2.1, bt348.2.2.2.1, bt348.2.2.2.2.1, bt348.2.2.2.2.2.1, bt348.2.2.2.2.2.2.1, bt348.2.2.2.2.2.2.2⟩ : S34)]) x7 x8 (wrap64 (x9 + 1))) else (none)))) else (none)) else (none)) else ((impl_cloneNode.f k x345000 x345001 x345002 x345003 x345004 x345005 x345006 x345007).bind fun bt365 => (if x3.length < 977343669134 then (impl_Merge.l0 k (x3 ++ [(⟨bt365.1, bt365.2.1, bt365.2.2.1, bt365.2.2.2.1, bt365.2.2.2.2.1, bt365.2.2.2.2.2.1, bt365.2.2.2.2.2.2.1, bt365.2.2.2.2.2.2.2⟩ : S34)]) x7 x8 (wrap64 (x9 + 1))) else (none)))) else ((impl_cloneNode.f k x345000 x345001 x345002 x345003 x345004 x345005 x345006 x345007).bind fun bt382 => (if x3.length < 977343669134 then (impl_Merge.l0 k (x3 ++ [(⟨bt382.1, bt382.2.1, bt382.2.2.1, bt382.2.2.2.1, bt382.2.2.2.2.1, bt382.2.2.2.2.2.1, bt382.2.2.2.2.2.2.1, bt382.2.2.2.2.2.2.2⟩ : S34)]) x7 x8 (wrap64 (x9 + 1))) else (none))))
end
def impl_Merge.f (k : Nat) (l0 : List (S34)) : Option ((List (S34))) := impl_Merge.l0 k ([] : List (S34)) l0 (l0.length : Int) 0
def impl_Merge.T9 : Bool × List (List Nat × List Nat) := (true, [([], []), ([], []), ([1], [1]), ([0, 2], [0, 2]), ([3], [3]), ([4], [4]), ([], []), ([6], [6]), ([5, 7], [5, 7]), ([0, 2, 0, 1, 2, 3, 4, 5, 6, 7, 8], [0, 2]), ([9, 0, 1, 2, 3, 4, 5, 6, 7, 8], [9]), ([10, 8, 0, 1, 2, 3, 4, 5, 6, 7, 8], [8, 10])])
def impl_Merge.B9 : List Nat := [0, 0, 2, 7, 15, 31, 0, 64, 255, 511, 1023, 2047]
theorem impl_Merge.tab9 : rtab .any (opsOf Try.f49 9) = impl_Merge.T9 := by kernel_rfl
theorem impl_Merge.bits9 : waitsOk impl_Merge.T9.2 impl_Merge.B9 = true := by kernel_rfl
theorem impl_Merge.callsD (k : Nat) (A0 : Option Addr) (c0 : Nat) (l0 : List (S34)) (r : List (S34)) (w : World) (hr0 : Kd.C k34 w A0 l0.length l0) (hc0 : l0.length ≤ c0) (h : impl_Merge.f k l0 = some r) :
  Calls Try.prog 49 #[.slice A0 l0.length c0] w fun e w' => ∃ v0_ : Value, e = .returned (v0_) ∧ Kd.S kD 34 w' w.heap.size (fun _ => True) v0_ r ∧ Below w.heap.size w w' := by
 have hu34 := Try.underlying34
 have HR0 := Aside0.mk hr0
 have HC0 := Aside0.mk hc0
 clear hr0 hc0
 have HB := Aside0.mk (Below.refl w.heap.size w)
 have H : (impl_Merge.l0 k ([] : List (S34)) l0 (l0.length : Int) 0) = some r := h
 clear h
 have H' := Aside0.mk H
 clear H
 go_enter Try.func49, Try.ntmps49
 go_wp2
 go_loopg [3, 9] k (fun kq v3 v9 w' => ∃ (x3_1 : List (S34)) (x9_1 : Int), v9 = .int .i64 x9_1 ∧ Aside0 (impl_Merge.l0 kq x3_1 l0 (l0.length : Int) x9_1 = some r) ∧ Aside0 (kq ≤ k) ∧ Aside0 (Kd.S kD 34 w' w.heap.size (fun _ => True) v3 x3_1) ∧ Aside0 (Below w.heap.size w w'))
 case atStart => exact ⟨(([] : List (S34))), (0), rG, H', ⟨Nat.le_refl _⟩, ⟨by first | exact Kd.S_nil _ _ _ _ _ | exact Kd.N_nil _ _ _ _ _ | exact Kd.V_nil _ _ _ _ _ | exact Kd.Q_nil _ _ _ _ _ | exact Kd.S_nil _ _ _ _ _⟩, ⟨hB⟩⟩
 case round =>
  clear H'
  obtain ⟨x3_1, x9_1, rfl, HA, HK1, HO_3, HB⟩ := hrel
  cases gk with
  | zero => exact absurd HA.out (by simp [impl_Merge.l0])
  | succ k1 =>
   have H := HA.out
   clear HA
   simp only [impl_Merge.l0] at H
   by_cases c2 : x9_1 < (l0.length : Int)
   ·rw [if_pos c2] at H
    have c2b0 : decide (x9_1 < (l0.length : Int)) = true := decide_eq_true c2
    clear c2
    obtain ⟨c3, H⟩ := if_som H
    have c3b0 : decide (0 ≤ x9_1) = true := decide_eq_true c3
    clear c3
    obtain ⟨c4, H⟩ := if_som H
    have c4b0 : decide (x9_1 < (l0.length : Int)) = true := decide_eq_true c4
    clear c4
    have HC5 := Aside0.mk H
    clear H
    have p343 : 0 ≤ (x9_1 : Int) := odt
    have q343 : x9_1 < (l0.length : Int) := odt
    obtain ⟨ad343, A343_4, c343_4, A343_5, c343_5, A343_6, c343_6, e343, hx343_0, hx343_1, hx343_2, hx343_3, hx343_4, hx343_5, hx343_6, hx343_7, hl343_4, hi343_4, hl343_5, hi343_5, hl343_6, hi343_6⟩ := at_T34 HR0.out x9_1 p343 q343
    cases e343
    replace hx343_0 := pw_cell_below HB.out hx343_0
    replace hx343_1 := pw_cell_below HB.out hx343_1
    replace hx343_2 := pw_cell_below HB.out hx343_2
    replace hx343_3 := pw_cell_below HB.out hx343_3
    replace hx343_4 := pw_cell_below HB.out hx343_4
    replace hx343_5 := pw_cell_below HB.out hx343_5
    replace hx343_6 := pw_cell_below HB.out hx343_6
    replace hx343_7 := pw_cell_below HB.out hx343_7
    have HR343_4 := Aside0.mk hi343_4
    have HC343_4 := Aside0.mk hl343_4
    clear hi343_4 hl343_4
    have HR343_5 := Aside0.mk hi343_5
    have HC343_5 := Aside0.mk hl343_5
    clear hi343_5 hl343_5
    have HR343_6 := Aside0.mk hi343_6
    have HC343_6 := Aside0.mk hl343_6
    clear hi343_6 hl343_6
    replace p343 := eq_true p343
    replace q343 := eq_true q343
    go_upto_region 7 with (first | ((with_reducible refine gate_dst (N := 5) rfl ?_); refine box_event ?hg (N := 5) ?hd (cs := #[.int .i64 0, .string (⟨#[]⟩ : ByteArray), .string (⟨#[]⟩ : ByteArray), .string (⟨#[]⟩ : ByteArray), .slice none 0 0, .slice none 0 0, .slice none 0 0, .string (⟨#[]⟩ : ByteArray)]) (t := 34) ?hr ?_; (case hd => rfl); (case hg => rfl); (case hr => first | (go_simp; done) | (go_simp; rfl)); intro gb344 hg w6 hbox hb; replace HO_3 := Aside0.mk (Kd.S_below (Kd.S_elderB (by (with_reducible repeat (first|apply rA|apply rN|apply rD|apply Kd.S_alloc|apply Kd.S_drewN|apply Kd.S_drew)); exact HO_3.out) gb344 (Nat.le_of_eq hg.symm)) hb); have BK344 := Aside0.mk (hbox); have GW344 := Aside0.mk ((by rw [hg]; exact (below_size hB) : w.heap.size ≤ gb344)); have GE344 := Aside0.mk ((by rw [hg]; exact (below_size hB) : w.heap.size ≤ gb344)); replace HB := Aside0.mk (below_step hB hb); clear hb hbox hg; obtain ⟨hcz7_0, hcz7_1, hcz7_2, hcz7_3, hcz7_4, hcz7_5, hcz7_6, hcz7_7⟩ := bc8 BK344.out; obtain ⟨hfz7_0, hfz7_1, hfz7_2, hfz7_3, hfz7_4, hfz7_5, hfz7_6, hfz7_7⟩ := bf8 BK344.out; obtain ⟨Ao8, co8, eo8⟩ := Kd.S_slice HO_3.out; subst eo8))
    (try simp only [Act.put, sT, sZ, sS])
    go_cut [20] (fun v20 wc => ∃ (kq : Nat) (x20_4 : Bool), v20 = .bool x20_4 ∧ Aside0 (impl_Merge.j1 kq x3_1 (x3_1.length : Int) l0 (l0.length : Int) x9_1 x20_4 ((rd_T34 l0 x9_1).f0) ((rd_T34 l0 x9_1).f1) ((rd_T34 l0 x9_1).f2) ((rd_T34 l0 x9_1).f3) ((rd_T34 l0 x9_1).f4) ((rd_T34 l0 x9_1).f5) ((rd_T34 l0 x9_1).f6) ((rd_T34 l0 x9_1).f7) = some r) ∧ Aside0 (kq ≤ k1) ∧ Aside0 (Kd.S kD 34 wc w.heap.size (fun k_ => k_ ≠ gb344) (.slice Ao8 x3_1.length co8) x3_1) ∧ Aside0 (wc.heap[gb344]? = some (.cells #[.int .i64 ((rd_T34 l0 x9_1).f0), .string ((rd_T34 l0 x9_1).f1), .string ((rd_T34 l0 x9_1).f2), .string ((rd_T34 l0 x9_1).f3), (.slice A343_4 ((rd_T34 l0 x9_1).f4).length c343_4), (.slice A343_5 ((rd_T34 l0 x9_1).f5).length c343_5), (.slice A343_6 ((rd_T34 l0 x9_1).f6).length c343_6), .string ((rd_T34 l0 x9_1).f7)] 34 (0, 0))) ∧ Aside0 (Below w.heap.size w wc))
    case first =>
     have H := HC5.out
     clear HC5
     by_cases c9 : ((rd_T34 l0 x9_1).f0) = 2
     ·rw [if_pos c9] at H
      obtain ⟨c9b0, c9b1⟩ := eqT c9
      clear c9
      (first | rw [c9b0] | (simp only [i64_w, i32_w]; rw [c9b0]) | skip)
      have H' := Aside0.mk H
      clear H
      obtain ⟨hcz10_0, hcz10_1, hcz10_2, hcz10_3, hcz10_4, hcz10_5, hcz10_6, hcz10_7⟩ := bc8 BK344.out
      obtain ⟨hfz10_0, hfz10_1, hfz10_2, hfz10_3, hfz10_4, hfz10_5, hfz10_6, hfz10_7⟩ := bf8 BK344.out
      go_wp2
      go_meet
      case rel => exact ⟨_, ((((rd_T34 l0 x9_1).f7).toList == ([] : List UInt8))), rG, H', ⟨by have := HK1.out; first | omega | exact Nat.le_refl _⟩, ⟨by (with_reducible repeat (first|apply rA|apply rN|apply rD|apply Kd.S_alloc|apply Kd.S_drewN|apply Kd.S_drew)); exact Kd.S_mono (Kd.S_far (p := ⟨gb344, 7, none⟩) (Kd.S_far (p := ⟨gb344, 6, none⟩) (Kd.S_far (p := ⟨gb344, 5, none⟩) (Kd.S_far (p := ⟨gb344, 4, none⟩) (Kd.S_far (p := ⟨gb344, 3, none⟩) (Kd.S_far (p := ⟨gb344, 2, none⟩) (Kd.S_far (p := ⟨gb344, 1, none⟩) (Kd.S_far (p := ⟨gb344, 0, none⟩) (Kd.S_mono HO_3.out (fun k_ hk => (⟨hk, hk.2⟩ : _ ∧ k_ ≠ gb344))) (fun _ hk => hk.2) (.int .i64 ((rd_T34 l0 x9_1).f0))) (fun _ hk => hk.2) (.string ((rd_T34 l0 x9_1).f1))) (fun _ hk => hk.2) (.string ((rd_T34 l0 x9_1).f2))) (fun _ hk => hk.2) (.string ((rd_T34 l0 x9_1).f3))) (fun _ hk => hk.2) (.slice A343_4 ((rd_T34 l0 x9_1).f4).length c343_4)) (fun _ hk => hk.2) (.slice A343_5 ((rd_T34 l0 x9_1).f5).length c343_5)) (fun _ hk => hk.2) (.slice A343_6 ((rd_T34 l0 x9_1).f6).length c343_6)) (fun _ hk => hk.2) (.string ((rd_T34 l0 x9_1).f7))) (fun _ hk => hk.1.2)⟩, ⟨by (with_reducible repeat (first | refine bN ?_ _|refine bD ?_|refine bA ?_ _)); exact put8 (by (with_reducible repeat (first | refine bN ?_ _|refine bD ?_|refine bA ?_ _)); exact BK344.out)⟩, ⟨hB⟩⟩
     ·rw [if_neg c9] at H
      obtain ⟨c9b0, c9b1⟩ := eqF c9
      (first | rw [c9b0] | (simp only [i64_w, i32_w]; rw [c9b0]) | skip)
      have H' := Aside0.mk H
      clear H
      obtain ⟨hcz11_0, hcz11_1, hcz11_2, hcz11_3, hcz11_4, hcz11_5, hcz11_6, hcz11_7⟩ := bc8 BK344.out
      obtain ⟨hfz11_0, hfz11_1, hfz11_2, hfz11_3, hfz11_4, hfz11_5, hfz11_6, hfz11_7⟩ := bf8 BK344.out
      go_wp2
      go_meet
      case rel => exact ⟨_, (false), rG, H', ⟨by have := HK1.out; first | omega | exact Nat.le_refl _⟩, ⟨by (with_reducible repeat (first|apply rA|apply rN|apply rD|apply Kd.S_alloc|apply Kd.S_drewN|apply Kd.S_drew)); exact Kd.S_mono (Kd.S_far (p := ⟨gb344, 7, none⟩) (Kd.S_far (p := ⟨gb344, 6, none⟩) (Kd.S_far (p := ⟨gb344, 5, none⟩) (Kd.S_far (p := ⟨gb344, 4, none⟩) (Kd.S_far (p := ⟨gb344, 3, none⟩) (Kd.S_far (p := ⟨gb344, 2, none⟩) (Kd.S_far (p := ⟨gb344, 1, none⟩) (Kd.S_far (p := ⟨gb344, 0, none⟩) (Kd.S_mono HO_3.out (fun k_ hk => (⟨hk, hk.2⟩ : _ ∧ k_ ≠ gb344))) (fun _ hk => hk.2) (.int .i64 ((rd_T34 l0 x9_1).f0))) (fun _ hk => hk.2) (.string ((rd_T34 l0 x9_1).f1))) (fun _ hk => hk.2) (.string ((rd_T34 l0 x9_1).f2))) (fun _ hk => hk.2) (.string ((rd_T34 l0 x9_1).f3))) (fun _ hk => hk.2) (.slice A343_4 ((rd_T34 l0 x9_1).f4).length c343_4)) (fun _ hk => hk.2) (.slice A343_5 ((rd_T34 l0 x9_1).f5).length c343_5)) (fun _ hk => hk.2) (.slice A343_6 ((rd_T34 l0 x9_1).f6).length c343_6)) (fun _ hk => hk.2) (.string ((rd_T34 l0 x9_1).f7))) (fun _ hk => hk.1.2)⟩, ⟨by (with_reducible repeat (first | refine bN ?_ _|refine bD ?_|refine bA ?_ _)); exact put8 (by (with_reducible repeat (first | refine bN ?_ _|refine bD ?_|refine bA ?_ _)); exact BK344.out)⟩, ⟨hB⟩⟩
    case rest =>
     clear HC5
     try clear c4; try clear c4b0; try clear c3; try clear c3b0; try clear c2; try clear c2b0
     try clear hcz7_0 hcz7_1 hcz7_2 hcz7_3 hcz7_4 hcz7_5 hcz7_6 hcz7_7
     try clear hfz7_0 hfz7_1 hfz7_2 hfz7_3 hfz7_4 hfz7_5 hfz7_6 hfz7_7
     try clear hx343_0
     try clear hx343_1
     try clear hx343_2
     try clear hx343_3
     try clear hx343_4
     try clear hx343_5
     try clear hx343_6
     try clear hx343_7
     try clear p343
     try clear q343
     obtain ⟨kq, x20_4, rfl, HA, HJ4, HO_3, BK344, HB⟩ := hcut
     cases kq with
     | zero => exact absurd HA.out (by simp [impl_Merge.j1])
     | succ kj4 =>
      have H := HA.out
      clear HA
      simp only [impl_Merge.j1] at H
      by_cases c12 : x20_4 = true
      ·subst c12
       rw [if_pos rfl] at H
       have H' := Aside0.mk H
       clear H
       go_wp2
       go_roundg kj4
       case measure => have := HK1.out; have := HJ4.out; omega
       case rel => exact ⟨(x3_1), (wrap64 (x9_1 + 1)), rG, H', ⟨by have := HK1.out; have := HJ4.out; omega⟩, ⟨by (with_reducible repeat (first|apply rA|apply rN|apply rD|apply Kd.S_alloc|apply Kd.S_drewN|apply Kd.S_drew)); exact Kd.S_mono HO_3.out (fun _ hk => trivial)⟩, ⟨hB⟩⟩
      ·replace c12 := Bool.eq_false_iff.mpr c12
       subst c12
       rw [if_neg (show ¬ (false = true) by decide)] at H
       by_cases c13 : ((rd_T34 l0 x9_1).f0) = 2
       ·rw [if_pos c13] at H
        obtain ⟨c13b0, c13b1⟩ := eqT c13
        clear c13
        by_cases c14 : (x3_1.length : Int) > 0
        ·rw [if_pos c14] at H
         have c14b0 : decide (0 < (x3_1.length : Int)) = true := decide_eq_true c14
         have c14b1 : decide (0 < x3_1.length) = true := decide_eq_true (by omega)
         clear c14
         obtain ⟨ji15, hji15⟩ : ∃ j_ : Int, (wrap64 ((x3_1.length : Int) - 1)) = j_ := ⟨_, rfl⟩
         replace H : (if 0 ≤ (ji15) then (if (ji15) < (x3_1.length : Int) then (if ((rd_T34 x3_1 (ji15)).f0) = 2 then (if ((rd_T34 x3_1 (ji15)).f7).size + ((rd_T34 l0 x9_1).f7).size ≤ 9223372036854775807 then (impl_Merge.l0 kj4 (x3_1.set ((ji15) : Int).toNat (⟨(rd_T34 x3_1 (ji15)).f0, (rd_T34 x3_1 (ji15)).f1, (rd_T34 x3_1 (ji15)).f2, (rd_T34 x3_1 (ji15)).f3, (rd_T34 x3_1 (ji15)).f4, (rd_T34 x3_1 (ji15)).f5, (rd_T34 x3_1 (ji15)).f6, ((rd_T34 x3_1 (ji15)).f7) ++ ((rd_T34 l0 x9_1).f7)⟩ : S34)) l0 (l0.length : Int) (wrap64 (x9_1 + 1))) else (none)) else ((impl_cloneNode.f kj4 ((rd_T34 l0 x9_1).f0) ((rd_T34 l0 x9_1).f1) ((rd_T34 l0 x9_1).f2) ((rd_T34 l0 x9_1).f3) ((rd_T34 l0 x9_1).f4) ((rd_T34 l0 x9_1).f5) ((rd_T34 l0 x9_1).f6) ((rd_T34 l0 x9_1).f7)).bind fun bt348 => (if x3_1.length < 977343669134 then (impl_Merge.l0 kj4 (x3_1 ++ [(⟨bt348.1, bt348.2.1, bt348.2.2.1, bt348.2.2.2.1, bt348.2.2.2.2.1, bt348.2.2.2.2.2.1, bt348.2.2.2.2.2.2.1, bt348.2.2.2.2.2.2.2⟩ : S34)]) l0 (l0.length : Int) (wrap64 (x9_1 + 1))) else (none)))) else (none)) else (none)) = some r := by first | (rw [hji15] at H; exact H) | (simp only [hji15] at H ⊢; exact H)
         have hji15w : (IntKind.i64.wrap ((x3_1.length : Int) - 1)) = ji15 := (i64_w _).trans hji15
         obtain ⟨c16, H⟩ := if_som H
         have c16b0 : decide (0 ≤ (ji15)) = true := decide_eq_true c16
         clear c16
         obtain ⟨c17, H⟩ := if_som H
         have c17b0 : decide ((ji15) < (x3_1.length : Int)) = true := decide_eq_true c17
         clear c17
         by_cases c18 : ((rd_T34 x3_1 (ji15)).f0) = 2
         ·rw [if_pos c18] at H
          obtain ⟨c18b0, c18b1⟩ := eqT c18
          clear c18
          obtain ⟨c19, H⟩ := if_som H
          obtain ⟨c19b0, c19b1⟩ := fcT c19
          try have c19b2 : (9223372036854775807 < ((rd_T34 x3_1 (ji15)).f7).size + ((rd_T34 l0 x9_1).f7).size) = False := eq_false (Nat.not_lt.2 c19)
          obtain ⟨y347, hy347⟩ : ∃ y_ : List (S34), y_ = (x3_1.set ((ji15) : Int).toNat (⟨(rd_T34 x3_1 (ji15)).f0, (rd_T34 x3_1 (ji15)).f1, (rd_T34 x3_1 (ji15)).f2, (rd_T34 x3_1 (ji15)).f3, (rd_T34 x3_1 (ji15)).f4, (rd_T34 x3_1 (ji15)).f5, (rd_T34 x3_1 (ji15)).f6, ((rd_T34 x3_1 (ji15)).f7) ++ ((rd_T34 l0 x9_1).f7)⟩ : S34)) := ⟨_, rfl⟩
          replace H : (impl_Merge.l0 kj4 y347 l0 (l0.length : Int) (wrap64 (x9_1 + 1))) = some r := by first | (rw [hy347]; with_reducible exact H) | (have H2_ := (Option.bind_some _ _).symm.trans H; rw [hy347]; with_reducible exact H2_) | (have H2_ := (Option.bind_some _ _).symm.trans H; with_reducible exact H2_) | with_reducible exact H | (rw [hy347]; exact H) | exact H
          have Ny347 := Aside0.mk hy347
          clear hy347
          have H' := Aside0.mk H
          clear H
          obtain ⟨hcz21_0, hcz21_1, hcz21_2, hcz21_3, hcz21_4, hcz21_5, hcz21_6, hcz21_7⟩ := bc8 BK344.out
          obtain ⟨hfz21_0, hfz21_1, hfz21_2, hfz21_3, hfz21_4, hfz21_5, hfz21_6, hfz21_7⟩ := bf8 BK344.out
          have p345 : 0 ≤ ((ji15) : Int) := odt
          have q345 : (ji15) < (x3_1.length : Int) := odt
          obtain ⟨ad345, A345_4, c345_4, A345_5, c345_5, A345_6, c345_6, e345, hx345_0, hx345_1, hx345_2, hx345_3, hx345_4, hx345_5, hx345_6, hx345_7, hl345_4, hi345_4, hl345_5, hi345_5, hl345_6, hi345_6⟩ := at_T34 (Kd.R_reads' (kD_toR HO_3.out)).2.2 (ji15) p345 q345
          cases e345
          obtain ⟨ce345, hce345, hMe345, hcc345⟩ := Kd.R_get (kD_toR HO_3.out) z34 (ji15) p345 (by first | exact q345 | exact odt | (have e_ := (Kd.R_reads' (kD_toR HO_3.out)).1; omega))
          obtain ⟨ve345_4, ve345_5, ve345_6, rfl, ge345_4, ge345_5, ge345_6⟩ := k34_openM hMe345
          have hv345_4 := hcc345 4 _ rfl
          rw [add_field _ _ 4 (by omega)] at hv345_4
          replace hv345_4 := Option.some.inj (hv345_4.symm.trans hx345_4)
          rw [hv345_4] at ge345_4
          have HL345_4 := Aside0.mk (show Kd.R k69 69 _ _ _ _ ((rd_T34 x3_1 (ji15)).f4) from ge345_4)
          clear hv345_4 ge345_4
          have hv345_5 := hcc345 5 _ rfl
          rw [add_field _ _ 5 (by omega)] at hv345_5
          replace hv345_5 := Option.some.inj (hv345_5.symm.trans hx345_5)
          rw [hv345_5] at ge345_5
          have HL345_5 := Aside0.mk (show Kd.R k71 71 _ _ _ _ ((rd_T34 x3_1 (ji15)).f5) from ge345_5)
          clear hv345_5 ge345_5
          have hv345_6 := hcc345 6 _ rfl
          rw [add_field _ _ 6 (by omega)] at hv345_6
          replace hv345_6 := Option.some.inj (hv345_6.symm.trans hx345_6)
          rw [hv345_6] at ge345_6
          have HL345_6 := Aside0.mk (show Kd.R k34 34 _ _ _ _ ((rd_T34 x3_1 (ji15)).f6) from ge345_6)
          clear hv345_6 ge345_6
          clear hcc345 hce345
          have HR345_4 := Aside0.mk hi345_4
          have HC345_4 := Aside0.mk hl345_4
          clear hi345_4 hl345_4
          have HR345_5 := Aside0.mk hi345_5
          have HC345_5 := Aside0.mk hl345_5
          clear hi345_5 hl345_5
          have HR345_6 := Aside0.mk hi345_6
          have HC345_6 := Aside0.mk hl345_6
          clear hi345_6 hl345_6
          replace p345 := eq_true p345
          replace q345 := eq_true q345
          try go_wp2
          replace HO_3 := Aside0.mk (Kd.S_drew HO_3.out)
          replace HL345_4 := Aside0.mk (Kd.R_drew HL345_4.out)
          replace HL345_5 := Aside0.mk (Kd.R_drew HL345_5.out)
          replace HL345_6 := Aside0.mk (Kd.R_drew HL345_6.out)
          replace BK344 := Aside0.mk (blk_drew BK344.out)
          replace HR345_4 := Aside0.mk (Kd.C_drew HR345_4.out)
          replace HR345_5 := Aside0.mk (Kd.C_drew HR345_5.out)
          replace HR345_6 := Aside0.mk (Kd.C_drew HR345_6.out)
          replace HB := Aside0.mk (below_drew1 HB.out)
          have p346 : 0 ≤ ((ji15) : Int) := odt
          have q346 : (ji15) < (x3_1.length : Int) := odt
          obtain ⟨ad346, A346_4, c346_4, A346_5, c346_5, A346_6, c346_6, e346, hx346_0, hx346_1, hx346_2, hx346_3, hx346_4, hx346_5, hx346_6, hx346_7, hl346_4, hi346_4, hl346_5, hi346_5, hl346_6, hi346_6⟩ := at_T34 (Kd.R_reads' (kD_toR HO_3.out)).2.2 (ji15) p346 q346
          obtain rfl : ad345 = ad346 := (by injection e346)
          obtain ⟨ce346, hce346, hMe346, hcc346⟩ := Kd.R_get (kD_toR HO_3.out) z34 (ji15) p346 (by first | exact q346 | exact odt | (have e_ := (Kd.R_reads' (kD_toR HO_3.out)).1; omega))
          obtain ⟨ve346_4, ve346_5, ve346_6, rfl, ge346_4, ge346_5, ge346_6⟩ := k34_openM hMe346
          have hv346_4 := hcc346 4 _ rfl
          rw [add_field _ _ 4 (by omega)] at hv346_4
          replace hv346_4 := Option.some.inj (hv346_4.symm.trans hx346_4)
          rw [hv346_4] at ge346_4
          have HL346_4 := Aside0.mk (show Kd.R k69 69 _ _ _ _ ((rd_T34 x3_1 (ji15)).f4) from ge346_4)
          clear hv346_4 ge346_4
          have hv346_5 := hcc346 5 _ rfl
          rw [add_field _ _ 5 (by omega)] at hv346_5
          replace hv346_5 := Option.some.inj (hv346_5.symm.trans hx346_5)
          rw [hv346_5] at ge346_5
          have HL346_5 := Aside0.mk (show Kd.R k71 71 _ _ _ _ ((rd_T34 x3_1 (ji15)).f5) from ge346_5)
          clear hv346_5 ge346_5
          have hv346_6 := hcc346 6 _ rfl
          rw [add_field _ _ 6 (by omega)] at hv346_6
          replace hv346_6 := Option.some.inj (hv346_6.symm.trans hx346_6)
          rw [hv346_6] at ge346_6
          have HL346_6 := Aside0.mk (show Kd.R k34 34 _ _ _ _ ((rd_T34 x3_1 (ji15)).f6) from ge346_6)
          clear hv346_6 ge346_6
          clear hcc346 hce346
          have HR346_4 := Aside0.mk hi346_4
          have HC346_4 := Aside0.mk hl346_4
          clear hi346_4 hl346_4
          have HR346_5 := Aside0.mk hi346_5
          have HC346_5 := Aside0.mk hl346_5
          clear hi346_5 hl346_5
          have HR346_6 := Aside0.mk hi346_6
          have HC346_6 := Aside0.mk hl346_6
          clear hi346_6 hl346_6
          replace p346 := eq_true p346
          replace q346 := eq_true q346
          have p20 : 0 ≤ ((ji15) : Int) := odt
          have q20 : ((ji15) : Int) < ((x3_1.length : Int) : Int) := odt
          obtain ⟨go20, co20, eo20, gb20, gl20, cl20, HG20⟩ := Kd.R_form (kD_toR HO_3.out) (by omega)
          (first | cases eo20 | (injection eo20 with ea_ en_ ec_; (first | subst ea_ | (injection ea_ with ea_; subst ea_)); subst ec_; clear en_))
          have GB20 := Aside0.mk gb20
          have GG20 := Aside0.mk HG20
          clear gb20 gl20 HG20
          (first | simp only [add_plain] at hx345_0 | skip)
          (first | simp only [add_plain] at hx345_1 | skip)
          (first | simp only [add_plain] at hx345_2 | skip)
          (first | simp only [add_plain] at hx345_3 | skip)
          (first | simp only [add_plain] at hx345_4 | skip)
          (first | simp only [add_plain] at hx345_5 | skip)
          (first | simp only [add_plain] at hx345_6 | skip)
          (first | simp only [add_plain] at hx345_7 | skip)
          (first | simp only [add_plain] at hx346_0 | skip)
          (first | simp only [add_plain] at hx346_1 | skip)
          (first | simp only [add_plain] at hx346_2 | skip)
          (first | simp only [add_plain] at hx346_3 | skip)
          (first | simp only [add_plain] at hx346_4 | skip)
          (first | simp only [add_plain] at hx346_5 | skip)
          (first | simp only [add_plain] at hx346_6 | skip)
          (first | simp only [add_plain] at hx346_7 | skip)
          obtain ⟨ce20, hcl20, hM20, hcc20, hfr20⟩ := Kd.R_elem (kD_toR HO_3.out) z34 ((ji15) : Int) p20 q20
          obtain ⟨ve20_4, ve20_5, ve20_6, rfl, ge20_4, ge20_5, ge20_6⟩ := k34_openM hM20
          have hx20_0 : World.cell? _ ⟨go20, ((ji15) : Int).toNat * 8, none⟩ = some (.int .i64 ((rd_T34 x3_1 (ji15)).f0)) := hcc20 0 _ rfl
          have hx20_1 : World.cell? _ ⟨go20, ((ji15) : Int).toNat * 8 + 1, none⟩ = some (.string ((rd_T34 x3_1 (ji15)).f1)) := hcc20 1 _ rfl
          have hx20_2 : World.cell? _ ⟨go20, ((ji15) : Int).toNat * 8 + 2, none⟩ = some (.string ((rd_T34 x3_1 (ji15)).f2)) := hcc20 2 _ rfl
          have hx20_3 : World.cell? _ ⟨go20, ((ji15) : Int).toNat * 8 + 3, none⟩ = some (.string ((rd_T34 x3_1 (ji15)).f3)) := hcc20 3 _ rfl
          have hx20_4 : World.cell? _ ⟨go20, ((ji15) : Int).toNat * 8 + 4, none⟩ = some (ve20_4) := hcc20 4 _ rfl
          have hx20_5 : World.cell? _ ⟨go20, ((ji15) : Int).toNat * 8 + 5, none⟩ = some (ve20_5) := hcc20 5 _ rfl
          have hx20_6 : World.cell? _ ⟨go20, ((ji15) : Int).toNat * 8 + 6, none⟩ = some (ve20_6) := hcc20 6 _ rfl
          have hx20_7 : World.cell? _ ⟨go20, ((ji15) : Int).toNat * 8 + 7, none⟩ = some (.string ((rd_T34 x3_1 (ji15)).f7)) := hcc20 7 _ rfl
          have hf20_0 : World.frozen? _ ⟨go20, ((ji15) : Int).toNat * 8, none⟩ = false := hfr20 0
          have hf20_1 : World.frozen? _ ⟨go20, ((ji15) : Int).toNat * 8 + 1, none⟩ = false := hfr20 1
          have hf20_2 : World.frozen? _ ⟨go20, ((ji15) : Int).toNat * 8 + 2, none⟩ = false := hfr20 2
          have hf20_3 : World.frozen? _ ⟨go20, ((ji15) : Int).toNat * 8 + 3, none⟩ = false := hfr20 3
          have hf20_4 : World.frozen? _ ⟨go20, ((ji15) : Int).toNat * 8 + 4, none⟩ = false := hfr20 4
          have hf20_5 : World.frozen? _ ⟨go20, ((ji15) : Int).toNat * 8 + 5, none⟩ = false := hfr20 5
          have hf20_6 : World.frozen? _ ⟨go20, ((ji15) : Int).toNat * 8 + 6, none⟩ = false := hfr20 6
          have hf20_7 : World.frozen? _ ⟨go20, ((ji15) : Int).toNat * 8 + 7, none⟩ = false := hfr20 7
          clear hcl20 hcc20 hfr20 hM20
          replace p20 := eq_true p20
          replace q20 := eq_true q20
          obtain ⟨ce23, hcl23, hM23, hcc23, hfr23⟩ := Kd.R_elem (kD_toR HO_3.out) z34 ((ji15) : Int) (odt) (by have h_ : ((ji15) : Int) < ((x3_1.length : Int) : Int) := odt; first | exact h_ | (have e_ := (Kd.R_reads' (kD_toR HO_3.out)).1; omega) | simpa using h_)
          obtain ⟨ve23_4, ve23_5, ve23_6, rfl, ge23_4, ge23_5, ge23_6⟩ := k34_openM hM23
          have HP23 := kD_seg7 HO_3.out ((ji15) : Int) (odt) (by have h_ : ((ji15) : Int) < ((x3_1.length : Int) : Int) := odt; first | exact h_ | (have e_ := (Kd.R_reads' (kD_toR HO_3.out)).1; omega) | simpa using h_) ((((rd_T34 x3_1 (ji15)).f7) ++ ((rd_T34 l0 x9_1).f7)))
          rw [← Ny347.out] at HP23
          have HQ23 := Aside0.mk HP23
          clear hcl23 hcc23 hfr23 hM23 HP23
          refine start_ (n := 12) (S := fun w' => w'.cell? ⟨gb344, 0, none⟩ = some (.int .i64 ((rd_T34 l0 x9_1).f0)) ∧ w'.cell? ⟨gb344, 1, none⟩ = some (.string ((rd_T34 l0 x9_1).f1)) ∧ w'.cell? ⟨gb344, 2, none⟩ = some (.string ((rd_T34 l0 x9_1).f2)) ∧ w'.cell? ⟨gb344, 3, none⟩ = some (.string ((rd_T34 l0 x9_1).f3)) ∧ w'.cell? ⟨gb344, 4, none⟩ = some (.slice A343_4 ((rd_T34 l0 x9_1).f4).length c343_4) ∧ w'.cell? ⟨gb344, 5, none⟩ = some (.slice A343_5 ((rd_T34 l0 x9_1).f5).length c343_5) ∧ w'.cell? ⟨gb344, 6, none⟩ = some (.slice A343_6 ((rd_T34 l0 x9_1).f6).length c343_6) ∧ w'.cell? ⟨gb344, 7, none⟩ = some (.string ((rd_T34 l0 x9_1).f7)) ∧ w'.cell? ⟨go20, ((ji15)).toNat * 8, none⟩ = some (.int .i64 ((rd_T34 x3_1 (ji15)).f0)) ∧ w'.cell? ⟨go20, ((ji15)).toNat * 8 + 1, none⟩ = some (.string ((rd_T34 x3_1 (ji15)).f1)) ∧ w'.cell? ⟨go20, ((ji15)).toNat * 8 + 2, none⟩ = some (.string ((rd_T34 x3_1 (ji15)).f2)) ∧ w'.cell? ⟨go20, ((ji15)).toNat * 8 + 3, none⟩ = some (.string ((rd_T34 x3_1 (ji15)).f3)) ∧ w'.cell? ⟨go20, ((ji15)).toNat * 8 + 4, none⟩ = some (.slice A346_4 ((rd_T34 x3_1 (ji15)).f4).length c346_4) ∧ w'.cell? ⟨go20, ((ji15)).toNat * 8 + 5, none⟩ = some (.slice A346_5 ((rd_T34 x3_1 (ji15)).f5).length c346_5) ∧ w'.cell? ⟨go20, ((ji15)).toNat * 8 + 6, none⟩ = some (.slice A346_6 ((rd_T34 x3_1 (ji15)).f6).length c346_6) ∧ w'.cell? ⟨go20, ((ji15)).toNat * 8 + 7, none⟩ = some (.string ((rd_T34 x3_1 (ji15)).f7))) (ds := [11]) #[false, false, false, false, false, false, false, false, false, false, false, false] (by kernel_rfl) rfl rfl ⟨(blk_cell BK344.out 0).trans rfl, (blk_cell BK344.out 1).trans rfl, (blk_cell BK344.out 2).trans rfl, (blk_cell BK344.out 3).trans rfl, (blk_cell BK344.out 4).trans rfl, (blk_cell BK344.out 5).trans rfl, (blk_cell BK344.out 6).trans rfl, (blk_cell BK344.out 7).trans rfl, hx346_0, hx346_1, hx346_2, hx346_3, hx346_4, hx346_5, hx346_6, hx346_7⟩ (fun hHeld => ?_); refine with_tabW impl_Merge.tab9 impl_Merge.bits9 (fun HT_ HW_ => ?_)
          generalize wc.drew = w22 at HO_3 HL345_4 HL345_5 HL345_6 BK344 HR345_4 HR345_5 HR345_6 HB GG20 HL346_4 HL346_5 HL346_6 HQ23 HR346_4 HR346_5 HR346_6 hf20_0 hf20_1 hf20_2 hf20_3 hf20_4 hf20_5 hf20_6 hf20_7 hx20_0 hx20_1 hx20_2 hx20_3 hx20_4 hx20_5 hx20_6 hx20_7 hx345_0 hx345_1 hx345_2 hx345_3 hx345_4 hx345_5 hx345_6 hx345_7 hx346_0 hx346_1 hx346_2 hx346_3 hx346_4 hx346_5 hx346_6 hx346_7 hHeld ⊢
          refine pU 0 46 (tf 1 11) ?_
          refine pU 1 47 (tf 2 10) ?_
          refine pU 2 48 (tf 3 9) ?_
          refine pU 3 49 (tf 4 8) ?_
          refine pU 4 50 (tf 5 7) ?_
          refine pU 6 52 #[true, true, true, true, true, false, true, false, false, false, false, false] ?_
          refine take_ (i := 5) (N := some 51) (v := ?_) (a' := ?_) (tf 7 5) rfl rfl (take_ofW HT_.out HW_.out (by kernel_rfl)) (fun _ _ _ h => h) (Or.inl ⟨by rfl, ?_⟩) hHeld ?_ ?_
          rotate_left
          ·rintro w' ⟨s0, s1, s2, s3, s4, s5, s6, s7, s8, s9, s10, s11, s12, s13, s14, s15⟩
           go_simp
           with_reducible rfl
          rotate_left
          ·simp only [Act.put, sT, sZ, sS, i64_w, i32_w]
           rfl
          refine take_ (i := 7) (N := some 53) (v := ?_) (a' := ?_) (tf 8 4) rfl rfl (take_ofW HT_.out HW_.out (by kernel_rfl)) (fun _ _ _ h => h) (Or.inl ⟨by rfl, ?_⟩) hHeld ?_ ?_
          rotate_left
          ·rintro w' ⟨s0, s1, s2, s3, s4, s5, s6, s7, s8, s9, s10, s11, s12, s13, s14, s15⟩
           go_simp
           with_reducible rfl
          rotate_left
          ·simp only [Act.put, sT, sZ, sS, i64_w, i32_w]
           rfl
          refine pU 8 54 (tf 9 3) ?_
          refine pU 9 55 (tf 10 2) ?_
          refine pU 10 56 (tf 11 1) ?_
          refine last_ (i := 11) (N := none) (tf 12 0) rfl rfl (one_of HT_.out (by kernel_rfl)) (by decide) (fun K hK => ?_)
          refine skip_ (w1 := ?_) (by rfl) rfl ?_ ?_
          rotate_left
          ·go_simp
           rfl
          refine hK.out _ _ ?_
          clear hK K
          refine done_ (done_of HT_.out (by kernel_rfl)) ?_
          try go_wp2
          go_roundg kj4
          case measure => have := HK1.out; have := HJ4.out; omega
          case rel => exact ⟨(y347), (wrap64 (x9_1 + 1)), rG, H', ⟨by have := HK1.out; have := HJ4.out; omega⟩, ⟨by (with_reducible repeat (first|apply rA|apply rN|apply rD|apply Kd.S_alloc|apply Kd.S_drewN|apply Kd.S_drew)); exact Kd.S_mono HQ23.out (fun _ hk => trivial)⟩, ⟨by repeat (first|(with_reducible first|exact HB.out|apply zA|apply zN|apply zD | refine below_set ?_ GB20.out | refine below_set ?_ GE344.out) | exact HB.out)⟩⟩
         ·rw [if_neg c18] at H
          obtain ⟨c18b0, c18b1⟩ := eqF c18
          replace H := Option.bind_eq_some_iff.mp H
          obtain ⟨⟨t348, t349, t350, t351, t352, t355, t358, t361⟩, A240, H⟩ := H
          try dsimp only at H
          have A24 := Aside0.mk A240
          clear A240
          obtain ⟨c25, H⟩ := if_som H
          have LMc25 := Aside0.mk c25
          clear c25
          obtain ⟨y362, hy362⟩ : ∃ y_ : List (S34), y_ = (x3_1 ++ [(⟨t348, t349, t350, t351, t352, t355, t358, t361⟩ : S34)]) := ⟨_, rfl⟩
          replace H : (impl_Merge.l0 kj4 y362 l0 (l0.length : Int) (wrap64 (x9_1 + 1))) = some r := by first | (rw [hy362]; with_reducible exact H) | (have H2_ := (Option.bind_some _ _).symm.trans H; rw [hy362]; with_reducible exact H2_) | (have H2_ := (Option.bind_some _ _).symm.trans H; with_reducible exact H2_) | with_reducible exact H | (rw [hy362]; exact H) | exact H
          have Ny362 := Aside0.mk hy362
          clear hy362
          have H' := Aside0.mk H
          clear H
          obtain ⟨hcz26_0, hcz26_1, hcz26_2, hcz26_3, hcz26_4, hcz26_5, hcz26_6, hcz26_7⟩ := bc8 BK344.out
          obtain ⟨hfz26_0, hfz26_1, hfz26_2, hfz26_3, hfz26_4, hfz26_5, hfz26_6, hfz26_7⟩ := bf8 BK344.out
          have p345 : 0 ≤ ((ji15) : Int) := odt
          have q345 : (ji15) < (x3_1.length : Int) := odt
          obtain ⟨ad345, A345_4, c345_4, A345_5, c345_5, A345_6, c345_6, e345, hx345_0, hx345_1, hx345_2, hx345_3, hx345_4, hx345_5, hx345_6, hx345_7, hl345_4, hi345_4, hl345_5, hi345_5, hl345_6, hi345_6⟩ := at_T34 (Kd.R_reads' (kD_toR HO_3.out)).2.2 (ji15) p345 q345
          cases e345
          obtain ⟨ce345, hce345, hMe345, hcc345⟩ := Kd.R_get (kD_toR HO_3.out) z34 (ji15) p345 (by first | exact q345 | exact odt | (have e_ := (Kd.R_reads' (kD_toR HO_3.out)).1; omega))
          obtain ⟨ve345_4, ve345_5, ve345_6, rfl, ge345_4, ge345_5, ge345_6⟩ := k34_openM hMe345
          have hv345_4 := hcc345 4 _ rfl
          rw [add_field _ _ 4 (by omega)] at hv345_4
          replace hv345_4 := Option.some.inj (hv345_4.symm.trans hx345_4)
          rw [hv345_4] at ge345_4
          have HL345_4 := Aside0.mk (show Kd.R k69 69 _ _ _ _ ((rd_T34 x3_1 (ji15)).f4) from ge345_4)
          clear hv345_4 ge345_4
          have hv345_5 := hcc345 5 _ rfl
          rw [add_field _ _ 5 (by omega)] at hv345_5
          replace hv345_5 := Option.some.inj (hv345_5.symm.trans hx345_5)
          rw [hv345_5] at ge345_5
          have HL345_5 := Aside0.mk (show Kd.R k71 71 _ _ _ _ ((rd_T34 x3_1 (ji15)).f5) from ge345_5)
          clear hv345_5 ge345_5
          have hv345_6 := hcc345 6 _ rfl
          rw [add_field _ _ 6 (by omega)] at hv345_6
          replace hv345_6 := Option.some.inj (hv345_6.symm.trans hx345_6)
          rw [hv345_6] at ge345_6
          have HL345_6 := Aside0.mk (show Kd.R k34 34 _ _ _ _ ((rd_T34 x3_1 (ji15)).f6) from ge345_6)
          clear hv345_6 ge345_6
          clear hcc345 hce345
          have HR345_4 := Aside0.mk hi345_4
          have HC345_4 := Aside0.mk hl345_4
          clear hi345_4 hl345_4
          have HR345_5 := Aside0.mk hi345_5
          have HC345_5 := Aside0.mk hl345_5
          clear hi345_5 hl345_5
          have HR345_6 := Aside0.mk hi345_6
          have HC345_6 := Aside0.mk hl345_6
          clear hi345_6 hl345_6
          replace p345 := eq_true p345
          replace q345 := eq_true q345
          go_wp2_with (first | ((with_reducible refine gate_callee (f := 28) rfl ?_); refine goesL_ (some 17) rfl rfl Try.func28 (by kernel_rfl) rfl #[.agg #[.int .i64 ((rd_T34 l0 x9_1).f0), .string ((rd_T34 l0 x9_1).f1), .string ((rd_T34 l0 x9_1).f2), .string ((rd_T34 l0 x9_1).f3), .slice A343_4 ((rd_T34 l0 x9_1).f4).length c343_4, .slice A343_5 ((rd_T34 l0 x9_1).f5).length c343_5, .slice A343_6 ((rd_T34 l0 x9_1).f6).length c343_6, .string ((rd_T34 l0 x9_1).f7)]] rfl mA ?_; (with_reducible refine (impl_cloneNode.callsD kj4 ((rd_T34 l0 x9_1).f0) ((rd_T34 l0 x9_1).f1) ((rd_T34 l0 x9_1).f2) ((rd_T34 l0 x9_1).f3) _ _ ((rd_T34 l0 x9_1).f4) _ _ ((rd_T34 l0 x9_1).f5) _ _ ((rd_T34 l0 x9_1).f6) ((rd_T34 l0 x9_1).f7) t348 t349 t350 t351 t352 t355 t358 t361 _ ?side1 ?side2 ?side3 ?side4 ?side5 ?side6 A24.out).mono ?_); (case side1 => repeat (first | exact (Kd.C_below HR343_4.out HB.out) | (with_reducible refine Kd.C_alloc ?_ _) | (with_reducible refine Kd.C_drewN ?_ _) | (with_reducible refine Kd.C_drew ?_))); (case side2 => exact HC343_4.out); (case side3 => repeat (first | exact (Kd.C_below HR343_5.out HB.out) | (with_reducible refine Kd.C_alloc ?_ _) | (with_reducible refine Kd.C_drewN ?_ _) | (with_reducible refine Kd.C_drew ?_))); (case side4 => exact HC343_5.out); (case side5 => repeat (first | exact (Kd.C_below HR343_6.out HB.out) | (with_reducible refine Kd.C_alloc ?_ _) | (with_reducible refine Kd.C_drewN ?_ _) | (with_reducible refine Kd.C_drew ?_))); (case side6 => exact HC343_6.out); rintro e w27 ⟨v353, v356, v359, rfl, ho0, ho1, ho2, hb⟩; refine ⟨_, rfl, ?_⟩; obtain ⟨N_, hNb, hN0, hN1, hN2, hN3⟩ : ∃ N : Nat, w.heap.size ≤ N ∧ Kd.R k69 69 w27 N (fun _ => True) v353 t352 ∧ Kd.R k71 71 w27 N (fun _ => True) v356 t355 ∧ Kd.S kD 34 w27 N (fun k_ => some k_ ≠ (v353 : Value).ownBlock ∧ some k_ ≠ (v356 : Value).ownBlock) v359 t358 ∧ Kd.S kD 34 w27 w.heap.size (fun k_ => k_ < N) (.slice (some ad345) x3_1.length co8) x3_1 := ⟨_, below_size hB, ho0, ho1, ho2, Kd.S_mono (Kd.S_old (by (with_reducible repeat (first|apply rA|apply rN|apply rD|apply Kd.S_alloc|apply Kd.S_drewN|apply Kd.S_drew)); exact HO_3.out) hb) (fun _ h_ => h_.2)⟩; have HN_ := Aside0.mk (And.intro hNb (And.intro hN0 (And.intro hN1 (And.intro hN2 hN3)))); clear hNb hN0 hN1 hN2 hN3; have HO354 := Aside0.mk (Kd.R_lower (Kd.R_new' ho0 (Kd.R_lt (by (with_reducible repeat (first|apply rA|apply rN|apply rD|apply Kd.S_alloc|apply Kd.S_drewN|apply Kd.S_drew)); exact HL345_4.out))) (below_size hB)); have HO357 := Aside0.mk (Kd.R_lower (Kd.R_new' ho1 (Kd.R_lt (by (with_reducible repeat (first|apply rA|apply rN|apply rD|apply Kd.S_alloc|apply Kd.S_drewN|apply Kd.S_drew)); exact HL345_5.out))) (below_size hB)); have HO360 := Aside0.mk (Kd.S_lower (Kd.S_newB (Kd.S_new' (Kd.S_new' (Kd.S_new' (Kd.S_new' ho2 (Kd.S_lt (by (with_reducible repeat (first|apply rA|apply rN|apply rD|apply Kd.S_alloc|apply Kd.S_drewN|apply Kd.S_drew)); exact HO_3.out))) (Kd.R_lt (by (with_reducible repeat (first|apply rA|apply rN|apply rD|apply Kd.S_alloc|apply Kd.S_drewN|apply Kd.S_drew)); exact HL345_4.out))) (Kd.R_lt (by (with_reducible repeat (first|apply rA|apply rN|apply rD|apply Kd.S_alloc|apply Kd.S_drewN|apply Kd.S_drew)); exact HL345_5.out))) (Kd.R_lt (by (with_reducible repeat (first|apply rA|apply rN|apply rD|apply Kd.S_alloc|apply Kd.S_drewN|apply Kd.S_drew)); exact HL345_6.out))) (g := gb344) (by (with_reducible repeat (first | refine bN ?_ _|refine bD ?_|refine bA ?_ _)); exact BK344.out)) (below_size hB)); replace HO_3 := Aside0.mk (Kd.S_mono (Kd.S_told (Kd.S_told (Kd.S_told (Kd.S_old (by (with_reducible repeat (first|apply rA|apply rN|apply rD|apply Kd.S_alloc|apply Kd.S_drewN|apply Kd.S_drew)); exact HO_3.out) hb) (Kd.R_base ho0)) (Kd.R_base ho1)) (Kd.S_base ho2)) (fun _ h_ => h_.1)); replace HL345_4 := Aside0.mk (Kd.R_elder' (by (with_reducible repeat (first|apply rA|apply rN|apply rD|apply Kd.S_alloc|apply Kd.S_drewN|apply Kd.S_drew)); exact HL345_4.out) (Kd.R_base ho0) hb); replace HL345_5 := Aside0.mk (Kd.R_elder' (by (with_reducible repeat (first|apply rA|apply rN|apply rD|apply Kd.S_alloc|apply Kd.S_drewN|apply Kd.S_drew)); exact HL345_5.out) (Kd.R_base ho1) hb); replace HL345_6 := Aside0.mk (Kd.R_mono (Kd.R_told (Kd.R_told (Kd.R_told (Kd.R_old (by (with_reducible repeat (first|apply rA|apply rN|apply rD|apply Kd.S_alloc|apply Kd.S_drewN|apply Kd.S_drew)); exact HL345_6.out) hb) (Kd.R_base ho0)) (Kd.R_base ho1)) (Kd.S_base ho2)) (fun _ h_ => h_.1)); replace BK344 := Aside0.mk (blk_below (g := gb344) (by (with_reducible repeat (first | refine bN ?_ _|refine bD ?_|refine bA ?_ _)); exact BK344.out) hb); replace HR345_4 := Aside0.mk (Kd.C_below (by repeat (first | (with_reducible exact HR345_4.out) | (with_reducible refine Kd.C_alloc ?_ _) | (with_reducible refine Kd.C_drewN ?_ _) | (with_reducible refine Kd.C_drew ?_) | exact HR345_4.out)) hb); replace HR345_5 := Aside0.mk (Kd.C_below (by repeat (first | (with_reducible exact HR345_5.out) | (with_reducible refine Kd.C_alloc ?_ _) | (with_reducible refine Kd.C_drewN ?_ _) | (with_reducible refine Kd.C_drew ?_) | exact HR345_5.out)) hb); replace HR345_6 := Aside0.mk (Kd.C_below (by repeat (first | (with_reducible exact HR345_6.out) | (with_reducible refine Kd.C_alloc ?_ _) | (with_reducible refine Kd.C_drewN ?_ _) | (with_reducible refine Kd.C_drew ?_) | exact HR345_6.out)) hb); replace HB := Aside0.mk (below_step hB hb); (try clear hb); (try clear hb2); (try clear hk); (try clear hi); (try clear ho0); (try clear ho1); (try clear ho2); obtain ⟨Ao29, co29, eo29⟩ := Kd.R_slice HO354.out; subst eo29; obtain ⟨Ao30, co30, eo30⟩ := Kd.R_slice HO357.out; subst eo30; obtain ⟨Ao31, co31, eo31⟩ := Kd.S_slice HO360.out; subst eo31) | ((with_reducible refine gate_builtin (b := .append) (xs := #[.tmp 15, .tmp 18]) rfl ?_); at_builtin; refine Kd.S_append kD (w0 := w) w.heap.size rfl (.tmp 15) (.tmp 18) 32 34 (.agg #[(.int .i64 0), (.string ⟨#[]⟩), (.string ⟨#[]⟩), (.string ⟨#[]⟩), (.slice none 0 0), (.slice none 0 0), (.slice none 0 0), (.string ⟨#[]⟩)]) 144 rfl Try.underlying32 info34 rfl (by decide) (by omega) (.slice (some ad345) x3_1.length co8) x3_1 (⟨t348, t349, t350, t351, t352, t355, t358, t361⟩ : S34) [.int .i64 t348, .string t349, .string t350, .string t351, .slice Ao29 t352.length co29, .slice Ao30 t355.length co30, .slice Ao31 t358.length co31, .string t361] (fun _ => True) (fun k_ => N_ ≤ k_) rfl rfl ?aP (fun k_ hk_ => ⟨trivial, fun e_ => Nat.not_lt.2 hk_ ((Kd.S_R HN_.out.2.2.2.2).1 k_ e_.symm)⟩) ?aF ?aO ?aB ?aS ?aL ?_; (case aP => exact kD_elemM HN_.out.1 (⟨t348, t349, t350, t351, t352, t355, t358, t361⟩ : S34) HN_.out.2.1 HN_.out.2.2.1 HN_.out.2.2.2.1); (case aB => exact hB); (case aF => exact fun _ _ => trivial); (case aO => exact Kd.S_mono HN_.out.2.2.2.2 (fun k_ hk_ => ⟨trivial, Nat.not_le.2 hk_⟩)); (case aS => exact (below_size hB)); (case aL => have := LMc25.out; omega); intro v363 w28 ho hb hg hat; rw [← Ny362.out] at ho; replace BK344 := Aside0.mk (blk_grown (g := gb344) (by (with_reducible repeat (first | refine bN ?_ _|refine bD ?_|refine bA ?_ _)); exact BK344.out) hg (Kd.S_away HO_3.out (fun _ hk => hk.1.1.1))); replace HL345_4 := Aside0.mk (Kd.R_after (ok := (fun k_ => some k_ ≠ (.slice Ao29 t352.length co29 : Value).ownBlock ∧ k_ ≠ gb344)) (by (with_reducible repeat (first|apply rA|apply rN|apply rD|apply Kd.S_alloc|apply Kd.S_drewN|apply Kd.S_drew)); exact Kd.R_mono HL345_4.out (fun _ hk => ⟨⟨hk.2, hk.1.1⟩, hk.1.2⟩)) hg hat); replace HL345_5 := Aside0.mk (Kd.R_after (ok := (fun k_ => some k_ ≠ (.slice Ao30 t355.length co30 : Value).ownBlock ∧ k_ ≠ gb344)) (by (with_reducible repeat (first|apply rA|apply rN|apply rD|apply Kd.S_alloc|apply Kd.S_drewN|apply Kd.S_drew)); exact Kd.R_mono HL345_5.out (fun _ hk => ⟨⟨hk.2, hk.1.1⟩, hk.1.2⟩)) hg hat); replace HL345_6 := Aside0.mk (Kd.R_after (ok := (fun k_ => some k_ ≠ (.slice Ao29 t352.length co29 : Value).ownBlock ∧ some k_ ≠ (.slice Ao30 t355.length co30 : Value).ownBlock ∧ some k_ ≠ (.slice Ao31 t358.length co31 : Value).ownBlock ∧ k_ ≠ gb344)) (by (with_reducible repeat (first|apply rA|apply rN|apply rD|apply Kd.S_alloc|apply Kd.S_drewN|apply Kd.S_drew)); exact Kd.R_mono HL345_6.out (fun _ hk => ⟨⟨hk.1.1.2, ⟨hk.1.2, ⟨hk.2, hk.1.1.1.1⟩⟩⟩, hk.1.1.1.2⟩)) hg hat); replace HB := Aside0.mk (hb); have HO364 := Aside0.mk (ho); clear HO_3; clear HO354; clear HO357; clear HO360; clear ho hb hg hat))
          go_roundg kj4
          case measure => have := HK1.out; have := HJ4.out; omega
          case rel => exact ⟨(y362), (wrap64 (x9_1 + 1)), rG, H', ⟨by have := HK1.out; have := HJ4.out; omega⟩, ⟨by (with_reducible repeat (first|apply rA|apply rN|apply rD|apply Kd.S_alloc|apply Kd.S_drewN|apply Kd.S_drew)); exact Kd.S_mono HO364.out (fun _ hk => trivial)⟩, ⟨hB⟩⟩
        ·rw [if_neg c14] at H
         have c14b0 : decide (0 < (x3_1.length : Int)) = false := decide_eq_false c14
         have c14b1 : decide (0 < x3_1.length) = false := decide_eq_false (by omega)
         clear c14
         replace H := Option.bind_eq_some_iff.mp H
         obtain ⟨⟨t365, t366, t367, t368, t369, t372, t375, t378⟩, A320, H⟩ := H
         try dsimp only at H
         have A32 := Aside0.mk A320
         clear A320
         obtain ⟨c33, H⟩ := if_som H
         have LMc33 := Aside0.mk c33
         clear c33
         obtain ⟨y379, hy379⟩ : ∃ y_ : List (S34), y_ = (x3_1 ++ [(⟨t365, t366, t367, t368, t369, t372, t375, t378⟩ : S34)]) := ⟨_, rfl⟩
         replace H : (impl_Merge.l0 kj4 y379 l0 (l0.length : Int) (wrap64 (x9_1 + 1))) = some r := by first | (rw [hy379]; with_reducible exact H) | (have H2_ := (Option.bind_some _ _).symm.trans H; rw [hy379]; with_reducible exact H2_) | (have H2_ := (Option.bind_some _ _).symm.trans H; with_reducible exact H2_) | with_reducible exact H | (rw [hy379]; exact H) | exact H
         have Ny379 := Aside0.mk hy379
         clear hy379
         have H' := Aside0.mk H
         clear H
         obtain ⟨hcz34_0, hcz34_1, hcz34_2, hcz34_3, hcz34_4, hcz34_5, hcz34_6, hcz34_7⟩ := bc8 BK344.out
         obtain ⟨hfz34_0, hfz34_1, hfz34_2, hfz34_3, hfz34_4, hfz34_5, hfz34_6, hfz34_7⟩ := bf8 BK344.out
         go_wp2_with (first | ((with_reducible refine gate_callee (f := 28) rfl ?_); refine goesL_ (some 17) rfl rfl Try.func28 (by kernel_rfl) rfl #[.agg #[.int .i64 ((rd_T34 l0 x9_1).f0), .string ((rd_T34 l0 x9_1).f1), .string ((rd_T34 l0 x9_1).f2), .string ((rd_T34 l0 x9_1).f3), .slice A343_4 ((rd_T34 l0 x9_1).f4).length c343_4, .slice A343_5 ((rd_T34 l0 x9_1).f5).length c343_5, .slice A343_6 ((rd_T34 l0 x9_1).f6).length c343_6, .string ((rd_T34 l0 x9_1).f7)]] rfl mA ?_; (with_reducible refine (impl_cloneNode.callsD kj4 ((rd_T34 l0 x9_1).f0) ((rd_T34 l0 x9_1).f1) ((rd_T34 l0 x9_1).f2) ((rd_T34 l0 x9_1).f3) _ _ ((rd_T34 l0 x9_1).f4) _ _ ((rd_T34 l0 x9_1).f5) _ _ ((rd_T34 l0 x9_1).f6) ((rd_T34 l0 x9_1).f7) t365 t366 t367 t368 t369 t372 t375 t378 _ ?side1 ?side2 ?side3 ?side4 ?side5 ?side6 A32.out).mono ?_); (case side1 => repeat (first | exact (Kd.C_below HR343_4.out HB.out) | (with_reducible refine Kd.C_alloc ?_ _) | (with_reducible refine Kd.C_drewN ?_ _) | (with_reducible refine Kd.C_drew ?_))); (case side2 => exact HC343_4.out); (case side3 => repeat (first | exact (Kd.C_below HR343_5.out HB.out) | (with_reducible refine Kd.C_alloc ?_ _) | (with_reducible refine Kd.C_drewN ?_ _) | (with_reducible refine Kd.C_drew ?_))); (case side4 => exact HC343_5.out); (case side5 => repeat (first | exact (Kd.C_below HR343_6.out HB.out) | (with_reducible refine Kd.C_alloc ?_ _) | (with_reducible refine Kd.C_drewN ?_ _) | (with_reducible refine Kd.C_drew ?_))); (case side6 => exact HC343_6.out); rintro e w35 ⟨v370, v373, v376, rfl, ho0, ho1, ho2, hb⟩; refine ⟨_, rfl, ?_⟩; obtain ⟨N_, hNb, hN0, hN1, hN2, hN3⟩ : ∃ N : Nat, w.heap.size ≤ N ∧ Kd.R k69 69 w35 N (fun _ => True) v370 t369 ∧ Kd.R k71 71 w35 N (fun _ => True) v373 t372 ∧ Kd.S kD 34 w35 N (fun k_ => some k_ ≠ (v370 : Value).ownBlock ∧ some k_ ≠ (v373 : Value).ownBlock) v376 t375 ∧ Kd.S kD 34 w35 w.heap.size (fun k_ => k_ < N) (.slice Ao8 x3_1.length co8) x3_1 := ⟨_, below_size hB, ho0, ho1, ho2, Kd.S_mono (Kd.S_old (by (with_reducible repeat (first|apply rA|apply rN|apply rD|apply Kd.S_alloc|apply Kd.S_drewN|apply Kd.S_drew)); exact HO_3.out) hb) (fun _ h_ => h_.2)⟩; have HN_ := Aside0.mk (And.intro hNb (And.intro hN0 (And.intro hN1 (And.intro hN2 hN3)))); clear hNb hN0 hN1 hN2 hN3; have HO371 := Aside0.mk (Kd.R_lower ho0 (below_size hB)); have HO374 := Aside0.mk (Kd.R_lower ho1 (below_size hB)); have HO377 := Aside0.mk (Kd.S_lower (Kd.S_newB (Kd.S_new' ho2 (Kd.S_lt (by (with_reducible repeat (first|apply rA|apply rN|apply rD|apply Kd.S_alloc|apply Kd.S_drewN|apply Kd.S_drew)); exact HO_3.out))) (g := gb344) (by (with_reducible repeat (first | refine bN ?_ _|refine bD ?_|refine bA ?_ _)); exact BK344.out)) (below_size hB)); replace HO_3 := Aside0.mk (Kd.S_mono (Kd.S_told (Kd.S_told (Kd.S_told (Kd.S_old (by (with_reducible repeat (first|apply rA|apply rN|apply rD|apply Kd.S_alloc|apply Kd.S_drewN|apply Kd.S_drew)); exact HO_3.out) hb) (Kd.R_base ho0)) (Kd.R_base ho1)) (Kd.S_base ho2)) (fun _ h_ => h_.1)); replace BK344 := Aside0.mk (blk_below (g := gb344) (by (with_reducible repeat (first | refine bN ?_ _|refine bD ?_|refine bA ?_ _)); exact BK344.out) hb); replace HB := Aside0.mk (below_step hB hb); (try clear hb); (try clear hb2); (try clear hk); (try clear hi); (try clear ho0); (try clear ho1); (try clear ho2); obtain ⟨Ao37, co37, eo37⟩ := Kd.R_slice HO371.out; subst eo37; obtain ⟨Ao38, co38, eo38⟩ := Kd.R_slice HO374.out; subst eo38; obtain ⟨Ao39, co39, eo39⟩ := Kd.S_slice HO377.out; subst eo39) | ((with_reducible refine gate_builtin (b := .append) (xs := #[.tmp 15, .tmp 18]) rfl ?_); at_builtin; refine Kd.S_append kD (w0 := w) w.heap.size rfl (.tmp 15) (.tmp 18) 32 34 (.agg #[(.int .i64 0), (.string ⟨#[]⟩), (.string ⟨#[]⟩), (.string ⟨#[]⟩), (.slice none 0 0), (.slice none 0 0), (.slice none 0 0), (.string ⟨#[]⟩)]) 144 rfl Try.underlying32 info34 rfl (by decide) (by omega) (.slice Ao8 x3_1.length co8) x3_1 (⟨t365, t366, t367, t368, t369, t372, t375, t378⟩ : S34) [.int .i64 t365, .string t366, .string t367, .string t368, .slice Ao37 t369.length co37, .slice Ao38 t372.length co38, .slice Ao39 t375.length co39, .string t378] (fun _ => True) (fun k_ => N_ ≤ k_) rfl rfl ?aP (fun k_ hk_ => ⟨trivial, fun e_ => Nat.not_lt.2 hk_ ((Kd.S_R HN_.out.2.2.2.2).1 k_ e_.symm)⟩) ?aF ?aO ?aB ?aS ?aL ?_; (case aP => exact kD_elemM HN_.out.1 (⟨t365, t366, t367, t368, t369, t372, t375, t378⟩ : S34) HN_.out.2.1 HN_.out.2.2.1 HN_.out.2.2.2.1); (case aB => exact hB); (case aF => exact fun _ _ => trivial); (case aO => exact Kd.S_mono HN_.out.2.2.2.2 (fun k_ hk_ => ⟨trivial, Nat.not_le.2 hk_⟩)); (case aS => exact (below_size hB)); (case aL => have := LMc33.out; omega); intro v380 w36 ho hb hg hat; rw [← Ny379.out] at ho; replace BK344 := Aside0.mk (blk_grown (g := gb344) (by (with_reducible repeat (first | refine bN ?_ _|refine bD ?_|refine bA ?_ _)); exact BK344.out) hg (Kd.S_away HO_3.out (fun _ hk => hk.1.1.1))); replace HB := Aside0.mk (hb); have HO381 := Aside0.mk (ho); clear HO_3; clear HO371; clear HO374; clear HO377; clear ho hb hg hat))
         go_roundg kj4
         case measure => have := HK1.out; have := HJ4.out; omega
         case rel => exact ⟨(y379), (wrap64 (x9_1 + 1)), rG, H', ⟨by have := HK1.out; have := HJ4.out; omega⟩, ⟨by (with_reducible repeat (first|apply rA|apply rN|apply rD|apply Kd.S_alloc|apply Kd.S_drewN|apply Kd.S_drew)); exact Kd.S_mono HO381.out (fun _ hk => trivial)⟩, ⟨hB⟩⟩
       ·rw [if_neg c13] at H
        obtain ⟨c13b0, c13b1⟩ := eqF c13
        replace H := Option.bind_eq_some_iff.mp H
        obtain ⟨⟨t382, t383, t384, t385, t386, t389, t392, t395⟩, A400, H⟩ := H
        try dsimp only at H
        have A40 := Aside0.mk A400
        clear A400
        obtain ⟨c41, H⟩ := if_som H
        have LMc41 := Aside0.mk c41
        clear c41
        obtain ⟨y396, hy396⟩ : ∃ y_ : List (S34), y_ = (x3_1 ++ [(⟨t382, t383, t384, t385, t386, t389, t392, t395⟩ : S34)]) := ⟨_, rfl⟩
        replace H : (impl_Merge.l0 kj4 y396 l0 (l0.length : Int) (wrap64 (x9_1 + 1))) = some r := by first | (rw [hy396]; with_reducible exact H) | (have H2_ := (Option.bind_some _ _).symm.trans H; rw [hy396]; with_reducible exact H2_) | (have H2_ := (Option.bind_some _ _).symm.trans H; with_reducible exact H2_) | with_reducible exact H | (rw [hy396]; exact H) | exact H
        have Ny396 := Aside0.mk hy396
        clear hy396
        have H' := Aside0.mk H
        clear H
        obtain ⟨hcz42_0, hcz42_1, hcz42_2, hcz42_3, hcz42_4, hcz42_5, hcz42_6, hcz42_7⟩ := bc8 BK344.out
        obtain ⟨hfz42_0, hfz42_1, hfz42_2, hfz42_3, hfz42_4, hfz42_5, hfz42_6, hfz42_7⟩ := bf8 BK344.out
        go_wp2_with (first | ((with_reducible refine gate_callee (f := 28) rfl ?_); refine goesL_ (some 17) rfl rfl Try.func28 (by kernel_rfl) rfl #[.agg #[.int .i64 ((rd_T34 l0 x9_1).f0), .string ((rd_T34 l0 x9_1).f1), .string ((rd_T34 l0 x9_1).f2), .string ((rd_T34 l0 x9_1).f3), .slice A343_4 ((rd_T34 l0 x9_1).f4).length c343_4, .slice A343_5 ((rd_T34 l0 x9_1).f5).length c343_5, .slice A343_6 ((rd_T34 l0 x9_1).f6).length c343_6, .string ((rd_T34 l0 x9_1).f7)]] rfl mA ?_; (with_reducible refine (impl_cloneNode.callsD kj4 ((rd_T34 l0 x9_1).f0) ((rd_T34 l0 x9_1).f1) ((rd_T34 l0 x9_1).f2) ((rd_T34 l0 x9_1).f3) _ _ ((rd_T34 l0 x9_1).f4) _ _ ((rd_T34 l0 x9_1).f5) _ _ ((rd_T34 l0 x9_1).f6) ((rd_T34 l0 x9_1).f7) t382 t383 t384 t385 t386 t389 t392 t395 _ ?side1 ?side2 ?side3 ?side4 ?side5 ?side6 A40.out).mono ?_); (case side1 => repeat (first | exact (Kd.C_below HR343_4.out HB.out) | (with_reducible refine Kd.C_alloc ?_ _) | (with_reducible refine Kd.C_drewN ?_ _) | (with_reducible refine Kd.C_drew ?_))); (case side2 => exact HC343_4.out); (case side3 => repeat (first | exact (Kd.C_below HR343_5.out HB.out) | (with_reducible refine Kd.C_alloc ?_ _) | (with_reducible refine Kd.C_drewN ?_ _) | (with_reducible refine Kd.C_drew ?_))); (case side4 => exact HC343_5.out); (case side5 => repeat (first | exact (Kd.C_below HR343_6.out HB.out) | (with_reducible refine Kd.C_alloc ?_ _) | (with_reducible refine Kd.C_drewN ?_ _) | (with_reducible refine Kd.C_drew ?_))); (case side6 => exact HC343_6.out); rintro e w43 ⟨v387, v390, v393, rfl, ho0, ho1, ho2, hb⟩; refine ⟨_, rfl, ?_⟩; obtain ⟨N_, hNb, hN0, hN1, hN2, hN3⟩ : ∃ N : Nat, w.heap.size ≤ N ∧ Kd.R k69 69 w43 N (fun _ => True) v387 t386 ∧ Kd.R k71 71 w43 N (fun _ => True) v390 t389 ∧ Kd.S kD 34 w43 N (fun k_ => some k_ ≠ (v387 : Value).ownBlock ∧ some k_ ≠ (v390 : Value).ownBlock) v393 t392 ∧ Kd.S kD 34 w43 w.heap.size (fun k_ => k_ < N) (.slice Ao8 x3_1.length co8) x3_1 := ⟨_, below_size hB, ho0, ho1, ho2, Kd.S_mono (Kd.S_old (by (with_reducible repeat (first|apply rA|apply rN|apply rD|apply Kd.S_alloc|apply Kd.S_drewN|apply Kd.S_drew)); exact HO_3.out) hb) (fun _ h_ => h_.2)⟩; have HN_ := Aside0.mk (And.intro hNb (And.intro hN0 (And.intro hN1 (And.intro hN2 hN3)))); clear hNb hN0 hN1 hN2 hN3; have HO388 := Aside0.mk (Kd.R_lower ho0 (below_size hB)); have HO391 := Aside0.mk (Kd.R_lower ho1 (below_size hB)); have HO394 := Aside0.mk (Kd.S_lower (Kd.S_newB (Kd.S_new' ho2 (Kd.S_lt (by (with_reducible repeat (first|apply rA|apply rN|apply rD|apply Kd.S_alloc|apply Kd.S_drewN|apply Kd.S_drew)); exact HO_3.out))) (g := gb344) (by (with_reducible repeat (first | refine bN ?_ _|refine bD ?_|refine bA ?_ _)); exact BK344.out)) (below_size hB)); replace HO_3 := Aside0.mk (Kd.S_mono (Kd.S_told (Kd.S_told (Kd.S_told (Kd.S_old (by (with_reducible repeat (first|apply rA|apply rN|apply rD|apply Kd.S_alloc|apply Kd.S_drewN|apply Kd.S_drew)); exact HO_3.out) hb) (Kd.R_base ho0)) (Kd.R_base ho1)) (Kd.S_base ho2)) (fun _ h_ => h_.1)); replace BK344 := Aside0.mk (blk_below (g := gb344) (by (with_reducible repeat (first | refine bN ?_ _|refine bD ?_|refine bA ?_ _)); exact BK344.out) hb); replace HB := Aside0.mk (below_step hB hb); (try clear hb); (try clear hb2); (try clear hk); (try clear hi); (try clear ho0); (try clear ho1); (try clear ho2); obtain ⟨Ao45, co45, eo45⟩ := Kd.R_slice HO388.out; subst eo45; obtain ⟨Ao46, co46, eo46⟩ := Kd.R_slice HO391.out; subst eo46; obtain ⟨Ao47, co47, eo47⟩ := Kd.S_slice HO394.out; subst eo47) | ((with_reducible refine gate_builtin (b := .append) (xs := #[.tmp 15, .tmp 18]) rfl ?_); at_builtin; refine Kd.S_append kD (w0 := w) w.heap.size rfl (.tmp 15) (.tmp 18) 32 34 (.agg #[(.int .i64 0), (.string ⟨#[]⟩), (.string ⟨#[]⟩), (.string ⟨#[]⟩), (.slice none 0 0), (.slice none 0 0), (.slice none 0 0), (.string ⟨#[]⟩)]) 144 rfl Try.underlying32 info34 rfl (by decide) (by omega) (.slice Ao8 x3_1.length co8) x3_1 (⟨t382, t383, t384, t385, t386, t389, t392, t395⟩ : S34) [.int .i64 t382, .string t383, .string t384, .string t385, .slice Ao45 t386.length co45, .slice Ao46 t389.length co46, .slice Ao47 t392.length co47, .string t395] (fun _ => True) (fun k_ => N_ ≤ k_) rfl rfl ?aP (fun k_ hk_ => ⟨trivial, fun e_ => Nat.not_lt.2 hk_ ((Kd.S_R HN_.out.2.2.2.2).1 k_ e_.symm)⟩) ?aF ?aO ?aB ?aS ?aL ?_; (case aP => exact kD_elemM HN_.out.1 (⟨t382, t383, t384, t385, t386, t389, t392, t395⟩ : S34) HN_.out.2.1 HN_.out.2.2.1 HN_.out.2.2.2.1); (case aB => exact hB); (case aF => exact fun _ _ => trivial); (case aO => exact Kd.S_mono HN_.out.2.2.2.2 (fun k_ hk_ => ⟨trivial, Nat.not_le.2 hk_⟩)); (case aS => exact (below_size hB)); (case aL => have := LMc41.out; omega); intro v397 w44 ho hb hg hat; rw [← Ny396.out] at ho; replace BK344 := Aside0.mk (blk_grown (g := gb344) (by (with_reducible repeat (first | refine bN ?_ _|refine bD ?_|refine bA ?_ _)); exact BK344.out) hg (Kd.S_away HO_3.out (fun _ hk => hk.1.1.1))); replace HB := Aside0.mk (hb); have HO398 := Aside0.mk (ho); clear HO_3; clear HO388; clear HO391; clear HO394; clear ho hb hg hat))
        go_roundg kj4
        case measure => have := HK1.out; have := HJ4.out; omega
        case rel => exact ⟨(y396), (wrap64 (x9_1 + 1)), rG, H', ⟨by have := HK1.out; have := HJ4.out; omega⟩, ⟨by (with_reducible repeat (first|apply rA|apply rN|apply rD|apply Kd.S_alloc|apply Kd.S_drewN|apply Kd.S_drew)); exact Kd.S_mono HO398.out (fun _ hk => trivial)⟩, ⟨hB⟩⟩
   ·rw [if_neg c2] at H
    have c2b0 : decide (x9_1 < (l0.length : Int)) = false := decide_eq_false c2
    clear c2
    obtain rfl := Option.some.inj H
    go_wp2
    go_ret
    exact ⟨_, rE, by (with_reducible repeat (first|apply rA|apply rN|apply rD|apply Kd.S_alloc|apply Kd.S_drewN|apply Kd.S_drew)); exact HO_3.out, hB⟩
theorem impl_Merge.calls (k : Nat) (A0 : Option Addr) (c0 : Nat) (l0 : List (S34)) (r : List (S34)) (w : World) (hr0 : Kd.C k34 w A0 l0.length l0) (hc0 : l0.length ≤ c0) (h : impl_Merge.f k l0 = some r) :
  Calls Try.prog 49 #[.slice A0 l0.length c0] w fun e w' => ∃ v0_ : Value, e = .returned (v0_) ∧ Kd.R k34 34 w' w.heap.size (fun _ => True) v0_ r ∧ Below w.heap.size w w' := by
  refine (impl_Merge.callsD k A0 c0 l0 r w hr0 hc0 h).mono ?_
  rintro e w' ⟨v, rfl, h1, h2⟩
  exact ⟨v, rfl, kD_toR h1, h2⟩

/-! ### impl_Node_53: function 53 -/
/-- Grow of nil (as Concat calls it): a row without elements. -/
def impl_Node_53.f (l0 : List S34) (a1 : Int) : Option (List S34) := if 0 ≤ a1 then (if a1 ≤ 549755813888 then some [] else none) else none
set_option maxHeartbeats 1000000 in
theorem impl_Node_53.calls (A0 : Option Addr) (c0 : Nat) (l0 : List (S34)) (a1 : Int) (r : List (S34)) (w : World) (hr0 : Kd.C k34 w A0 l0.length l0) (hc0 : l0.length ≤ c0) (h : impl_Node_53.f l0 a1 = some r) :
    Calls Try.prog 53 #[.slice none 0 0, .int .i64 a1] w fun e w' => ∃ v0_ : Value, e = .returned (v0_) ∧ Kd.R k34 34 w' w.heap.size (fun _ => True) v0_ r ∧ Below w.heap.size w w' := by
  clear hr0 hc0
  unfold impl_Node_53.f at h
  by_cases h0 : 0 ≤ a1
  · rw [if_pos h0] at h
    by_cases h1 : a1 ≤ 549755813888
    · rw [if_pos h1] at h
      cases h
      have hlt : ¬ a1 < 0 := by omega
      by_cases hz : a1 = 0
      · subst hz
        go_enter Try.func53, Try.ntmps53
        go_wp2
        go_ret
        exact ⟨_, rfl, Kd.R_nil _ _ _ _ _, Below.refl _ _⟩
      · have hgt : a1 > 0 := by omega
        obtain ⟨i0, hi0, _, hsz, _⟩ := info_parts info34
        have hcut0 := cut_to (P := Try.prog) 32 34 .i64 Try.underlying32 hi0 none 0 0 0 (by omega) (by omega) (by omega)
        go_enter Try.func53, Try.ntmps53
        go_wp2_with (at_builtin; refine Kd.R_append_zeros k34 (w0 := w) w.heap.size rfl (.tmp 20) (.tmp 21) 32 3 34 (.agg #[(.int .i64 0), (.string ⟨#[]⟩), (.string ⟨#[]⟩), (.string ⟨#[]⟩), (.slice none 0 0), (.slice none 0 0), (.slice none 0 0), (.string ⟨#[]⟩)]) 144 rfl Try.underlying32 Try.underlying3 info34 rfl (by decide) (by omega) (.slice none 0 0) [] z34 (a1 : Int) (fun _ => True) rfl rfl (k34_mkM _ _ _ z34 (Kd.R_nil _ _ _ _ _) (Kd.R_nil _ _ _ _ _) (Kd.R_nil _ _ _ _ _)) (fun _ _ => trivial) (Kd.R_nil _ _ _ _ _) (by omega) (Below.refl _ _) (Nat.le_refl _) (by simp; omega) ?_; intro v1 w1 h1 hb hg hat; obtain ⟨A1, c1, rfl, hc1, _⟩ := Kd.R_reads h1; have hr := Kd.R_take (m := 0) h1 (by omega); have hcut1 := cut_to (P := Try.prog) 32 34 .i64 Try.underlying32 hi0 A1 _ c1 0 (by omega) (by omega) hc1; have HR := Aside0.mk hr; clear hr h1 hg hat)
        go_ret
        exact ⟨_, rfl, HR.out, hb⟩
    · rw [if_neg h1] at h
      cases h
  · rw [if_neg h0] at h
    cases h

/-! ### impl_Node_50: function 50 -/
mutual
def impl_Node_50.l0 : Nat → List (List (S34)) → Int → List (List (S34)) → Int → Int → Option ((List (S34)))
 | 0, _, _, _, _, _ => none
 | k + 1, x0, x3, x9, x10, x11 => if x11 < x10 then (if 0 ≤ x11 then (if x11 < (x9.length : Int) then (if (wrap64 (x3 + ((rd_L13 x9 x11).length : Int))) < 0 then (none) else (impl_Node_50.l0 k x0 (wrap64 (x3 + ((rd_L13 x9 x11).length : Int))) x9 x10 (wrap64 (x11 + 1)))) else (none)) else (none)) else ((impl_Node_53.f ([] : List (S34)) x3).bind fun t400 => (impl_Node_50.l1 k t400 x0 (x0.length : Int) 0))
def impl_Node_50.l1 : Nat → List (S34) → List (List (S34)) → Int → Int → Option ((List (S34)))
 | 0, _, _, _, _ => none
 | k + 1, x6, x25, x26, x27 => if x27 < x26 then (if 0 ≤ x27 then (if x27 < (x25.length : Int) then (if x6.length + (rd_L13 x25 x27).length < 977343669134 then (impl_Node_50.l1 k (x6 ++ (rd_L13 x25 x27)) x25 x26 (wrap64 (x27 + 1))) else (none)) else (none)) else (none)) else (some x6)
end
def impl_Node_50.f (k : Nat) (l0 : List (List (S34))) : Option ((List (S34))) := impl_Node_50.l0 k l0 0 l0 (l0.length : Int) 0
theorem impl_Node_50.calls (k : Nat) (P0_ : Nat → Prop) (A0 : Option Addr) (c0 : Nat) (l0 : List (List (S34))) (r : List (S34)) (w : World) (hs0 : Kd.V (Kd.slice 34 k34) 32 w w.heap.size (fun k_ => P0_ k_) (.slice A0 l0.length c0) l0) (h : impl_Node_50.f k l0 = some r) :
  Calls Try.prog 50 #[.slice A0 l0.length c0] w fun e w' => ∃ v0_ : Value, e = .returned (v0_) ∧ Kd.N k34 34 w' w.heap.size (fun k_ => (P0_ k_ ∨ w.heap.size ≤ k_)) v0_ r ∧ Below w.heap.size w w' := by
 have HO0 := Aside0.mk (show Kd.V (Kd.slice 34 k34) 32 w w.heap.size (fun k_ => (P0_ k_ ∨ w.heap.size ≤ k_)) (.slice A0 l0.length c0) l0 from Kd.V_mono hs0 (fun k_ hk => .inl hk))
 have HB := Aside0.mk (Below.refl w.heap.size w)
 have H : (impl_Node_50.l0 k l0 0 l0 (l0.length : Int) 0) = some r := h
 clear h
 have H' := Aside0.mk H
 clear H
 go_enter Try.func50, Try.ntmps50
 go_wp2
 go_loopg [3, 11] k (fun kq v3 v11 w' => ∃ (x3_1 : Int) (x11_1 : Int), v3 = .int .i64 x3_1 ∧ v11 = .int .i64 x11_1 ∧ Aside0 (impl_Node_50.l0 kq l0 x3_1 l0 (l0.length : Int) x11_1 = some r) ∧ Aside0 (kq ≤ k) ∧ Aside0 (Kd.V (Kd.slice 34 k34) 32 w' w.heap.size (fun k_ => (P0_ k_ ∨ w.heap.size ≤ k_)) (.slice A0 l0.length c0) l0) ∧ Aside0 (Kd.V (Kd.slice 34 k34) 32 w' w.heap.size (fun k_ => (P0_ k_ ∨ w.heap.size ≤ k_)) (.slice A0 l0.length c0) l0) ∧ Aside0 (Below w.heap.size w w'))
 case atStart => exact ⟨(0), (0), rG, rG, H', ⟨Nat.le_refl _⟩, ⟨by (with_reducible repeat (first | apply Kd.V_alloc | apply Kd.V_drewN | apply Kd.V_drew)); exact HO0.out⟩, ⟨by (with_reducible repeat (first | apply Kd.V_alloc | apply Kd.V_drewN | apply Kd.V_drew)); exact HO0.out⟩, ⟨hB⟩⟩
 case round =>
  clear H'
  obtain ⟨x3_1, x11_1, rfl, rfl, HA, HK1, HO_0, HO_9, HB⟩ := hrel
  cases gk with
  | zero => exact absurd HA.out (by simp [impl_Node_50.l0])
  | succ k1 =>
   have H := HA.out
   clear HA
   simp only [impl_Node_50.l0] at H
   by_cases c2 : x11_1 < (l0.length : Int)
   ·rw [if_pos c2] at H
    have c2b0 : decide (x11_1 < (l0.length : Int)) = true := decide_eq_true c2
    clear c2
    obtain ⟨c3, H⟩ := if_som H
    have c3b0 : decide (0 ≤ x11_1) = true := decide_eq_true c3
    clear c3
    obtain ⟨c4, H⟩ := if_som H
    have c4b0 : decide (x11_1 < (l0.length : Int)) = true := decide_eq_true c4
    clear c4
    obtain ⟨c5, H⟩ := if_els H
    have c5b0 : decide ((wrap64 (x3_1 + ((rd_L13 l0 x11_1).length : Int))) < 0) = false := decide_eq_false c5
    clear c5
    have H' := Aside0.mk H
    clear H
    have p399 : 0 ≤ (x11_1 : Int) := odt
    have q399 : x11_1 < (l0.length : Int) := odt
    obtain ⟨ad399, A399_0, c399_0, e399, hx399_0, hl399_0, hi399_0⟩ := at_L13 (Kd.V_reads' HO_9.out).2.2 x11_1 p399 q399
    cases e399
    obtain ⟨ce399, hce399, hMe399, hcc399⟩ := Kd.V_get HO_9.out [] x11_1 p399 (by first | exact q399 | exact odt | (have e_ := (Kd.V_reads' HO_9.out).1; omega))
    obtain ⟨ua399_0, uc399_0, rfl, ul399_0, ge399_0⟩ := Kd.FK_slice_open hMe399
    have hv399_0 := hcc399 0 _ rfl
    rw [Nat.add_zero, show ((Kd.slice 34 k34)).sz = 1 from rfl, Nat.mul_one] at hv399_0
    replace hv399_0 := Option.some.inj (hv399_0.symm.trans hx399_0)
    injection hv399_0 with hva_ hvn_ hvc_
    rw [hva_] at ge399_0
    rw [hvc_] at ul399_0
    have HL399_0 := Aside0.mk (show Kd.V k34 34 _ w.heap.size _ _ (rd_L13 l0 x11_1) from Kd.V_mk ul399_0 ge399_0)
    clear hva_ hvn_ hvc_ ge399_0 ul399_0
    clear hcc399 hce399
    have HR399_0 := Aside0.mk hi399_0
    have HC399_0 := Aside0.mk hl399_0
    clear hi399_0 hl399_0
    replace p399 := eq_true p399
    replace q399 := eq_true q399
    go_wp2
    go_roundg k1
    case measure => have := HK1.out; omega
    case rel => exact ⟨(wrap64 (x3_1 + ((rd_L13 l0 x11_1).length : Int))), (wrap64 (x11_1 + 1)), rG, rG, H', ⟨by have := HK1.out; omega⟩, ⟨by (with_reducible repeat (first | apply Kd.V_alloc | apply Kd.V_drewN | apply Kd.V_drew)); exact HO_0.out⟩, ⟨by (with_reducible repeat (first | apply Kd.V_alloc | apply Kd.V_drewN | apply Kd.V_drew)); exact HO_9.out⟩, ⟨hB⟩⟩
   ·rw [if_neg c2] at H
    have c2b0 : decide (x11_1 < (l0.length : Int)) = false := decide_eq_false c2
    clear c2
    replace H := Option.bind_eq_some_iff.mp H
    obtain ⟨t400, A60, H⟩ := H
    try dsimp only at H
    have A6 := Aside0.mk A60
    clear A60
    have H' := Aside0.mk H
    clear H
    go_wp2_with (first | ((with_reducible refine gate_callee (f := 53) rfl ?_); refine goesL_ (some 24) rfl rfl Try.func53 (by kernel_rfl) rfl #[.slice none 0 0, .int .i64 x3_1] rfl mA ?_; (refine (impl_Node_53.calls none 0 ([] : List (S34)) x3_1 t400 _ ?side1 ?side2 A6.out).mono ?_); (case side1 => exact Kd.C_nil _ _); (case side2 => exact Nat.le_refl _); rintro e w7 ⟨v401, rfl, ho0, hb⟩; refine ⟨_, rfl, ?_⟩; replace HO_0 := Aside0.mk (Kd.V_elder' (by (with_reducible repeat (first | apply Kd.V_alloc | apply Kd.V_drewN | apply Kd.V_drew)); exact HO_0.out) (Kd.R_base ho0) hb); replace HO_9 := Aside0.mk (Kd.V_elder' (by (with_reducible repeat (first | apply Kd.V_alloc | apply Kd.V_drewN | apply Kd.V_drew)); exact HO_9.out) (Kd.R_base ho0) hb); have HO402 := Aside0.mk (Kd.N_lower (Kd.N_mono (ok' := fun k_ => (P0_ k_ ∨ w.heap.size ≤ k_)) (Kd.R_N (Kd.R_bound ho0)) (fun k_ hk_ => (.inr (Nat.le_trans (below_size hB) hk_.2.1)))) (below_size hB)); replace HB := Aside0.mk (below_step hB hb); (try clear hb); (try clear hb2); (try clear hk); (try clear hi); (try clear ho0)))
    go_loopg [6, 27] k1 (fun kq v6 v27 w' => ∃ (x6_2 : List (S34)) (x27_2 : Int), v27 = .int .i64 x27_2 ∧ Aside0 (impl_Node_50.l1 kq x6_2 l0 (l0.length : Int) x27_2 = some r) ∧ Aside0 (kq ≤ k1) ∧ Aside0 (Kd.N k34 34 w' w.heap.size (fun k_ => (P0_ k_ ∨ w.heap.size ≤ k_)) v6 x6_2) ∧ Aside0 (Kd.V (Kd.slice 34 k34) 32 w' w.heap.size (fun k_ => (P0_ k_ ∨ w.heap.size ≤ k_) ∧ some k_ ≠ (v6 : Value).ownBlock) (.slice A0 l0.length c0) l0) ∧ Aside0 (Below w.heap.size w w'))
    case atStart => exact ⟨(t400), (0), rG, H', ⟨Nat.le_refl _⟩, ⟨by (with_reducible repeat (first | apply Kd.N_alloc | apply Kd.N_drewN | apply Kd.N_drew)); exact HO402.out⟩, ⟨by (with_reducible repeat (first | apply Kd.V_alloc | apply Kd.V_drewN | apply Kd.V_drew)); exact HO_0.out⟩, ⟨hB⟩⟩
    case round =>
     clear H'
     try clear c2; try clear c2b0
     obtain ⟨x6_2, x27_2, rfl, HA, HK2, HO_6, HO_25, HB⟩ := hrel
     cases gk with
     | zero => exact absurd HA.out (by simp [impl_Node_50.l1])
     | succ k2 =>
      have H := HA.out
      clear HA
      simp only [impl_Node_50.l1] at H
      by_cases c8 : x27_2 < (l0.length : Int)
      ·rw [if_pos c8] at H
       have c8b0 : decide (x27_2 < (l0.length : Int)) = true := decide_eq_true c8
       clear c8
       obtain ⟨c9, H⟩ := if_som H
       have c9b0 : decide (0 ≤ x27_2) = true := decide_eq_true c9
       clear c9
       obtain ⟨c10, H⟩ := if_som H
       have c10b0 : decide (x27_2 < (l0.length : Int)) = true := decide_eq_true c10
       clear c10
       obtain ⟨c11, H⟩ := if_som H
       have LMc11 := Aside0.mk c11
       clear c11
       obtain ⟨y404, hy404⟩ : ∃ y_ : List (S34), y_ = (x6_2 ++ (rd_L13 l0 x27_2)) := ⟨_, rfl⟩
       replace H : (impl_Node_50.l1 k2 y404 l0 (l0.length : Int) (wrap64 (x27_2 + 1))) = some r := by first | (rw [hy404]; with_reducible exact H) | (have H2_ := (Option.bind_some _ _).symm.trans H; rw [hy404]; with_reducible exact H2_) | (have H2_ := (Option.bind_some _ _).symm.trans H; with_reducible exact H2_) | with_reducible exact H | (rw [hy404]; exact H) | exact H
       have Ny404 := Aside0.mk hy404
       clear hy404
       have H' := Aside0.mk H
       clear H
       have p403 : 0 ≤ (x27_2 : Int) := odt
       have q403 : x27_2 < (l0.length : Int) := odt
       obtain ⟨ad403, A403_0, c403_0, e403, hx403_0, hl403_0, hi403_0⟩ := at_L13 (Kd.V_reads' HO_25.out).2.2 x27_2 p403 q403
       cases e403
       obtain ⟨ce403, hce403, hMe403, hcc403⟩ := Kd.V_get HO_25.out [] x27_2 p403 (by first | exact q403 | exact odt | (have e_ := (Kd.V_reads' HO_25.out).1; omega))
       obtain ⟨ua403_0, uc403_0, rfl, ul403_0, ge403_0⟩ := Kd.FK_slice_open hMe403
       have hv403_0 := hcc403 0 _ rfl
       rw [Nat.add_zero, show ((Kd.slice 34 k34)).sz = 1 from rfl, Nat.mul_one] at hv403_0
       replace hv403_0 := Option.some.inj (hv403_0.symm.trans hx403_0)
       injection hv403_0 with hva_ hvn_ hvc_
       rw [hva_] at ge403_0
       rw [hvc_] at ul403_0
       have HL403_0 := Aside0.mk (show Kd.V k34 34 _ w.heap.size _ _ (rd_L13 l0 x27_2) from Kd.V_mk ul403_0 ge403_0)
       clear hva_ hvn_ hvc_ ge403_0 ul403_0
       clear hcc403 hce403
       have HR403_0 := Aside0.mk hi403_0
       have HC403_0 := Aside0.mk hl403_0
       clear hi403_0 hl403_0
       replace p403 := eq_true p403
       replace q403 := eq_true q403
       go_wp2_with (first | ((with_reducible refine gate_builtin (b := .append) (xs := #[.tmp 31, .tmp 32]) rfl ?_); at_builtin; refine Kd.N_append_rows k34 (w0 := w) w.heap.size rfl (.tmp 31) (.tmp 32) 32 34 (.agg #[(.int .i64 0), (.string ⟨#[]⟩), (.string ⟨#[]⟩), (.string ⟨#[]⟩), (.slice none 0 0), (.slice none 0 0), (.slice none 0 0), (.string ⟨#[]⟩)]) 144 rfl Try.underlying32 info34 rfl (by decide) (by omega) u6 x6_2 (rd_L13 l0 x27_2) _ _ _ (fun k_ => (P0_ k_ ∨ w.heap.size ≤ k_)) (fun k_ => ((fun k_ => (P0_ k_ ∨ w.heap.size ≤ k_))) k_ ∧ some k_ ≠ (u6 : Value).ownBlock) rfl rfl ?aO ?aR (fun _ hk => hk) ?aF ?aB ?aS ?aL ?_; (case aR => exact (by skip; exact Kd.V_F (Kd.V_mono (ok' := (fun k_ => ((fun k_ => (P0_ k_ ∨ w.heap.size ≤ k_))) k_ ∧ some k_ ≠ (u6 : Value).ownBlock)) (HL403_0.out) (fun k_ hk => ⟨hk.1, hk.2⟩)))); (case aB => exact hB); (case aF => exact (fun k_ hk => (.inr (Nat.le_trans (below_size hB) hk)))); (case aO => exact (by (with_reducible repeat (first | apply Kd.N_alloc | apply Kd.N_drewN | apply Kd.N_drew)); exact HO_6.out)); (case aS => exact (below_size hB)); (case aL => have := LMc11.out; omega); intro v405 w12 ho hb hg hat; rw [← Ny404.out] at ho; replace HO_25 := Aside0.mk (Kd.V_afterv (ok := (fun k_ => (P0_ k_ ∨ w.heap.size ≤ k_))) (by (with_reducible repeat (first | apply Kd.V_alloc | apply Kd.V_drewN | apply Kd.V_drew)); exact HO_25.out) hg hat); replace HL403_0 := Aside0.mk (Kd.V_afterv (ok := (fun k_ => (P0_ k_ ∨ w.heap.size ≤ k_))) (by (with_reducible repeat (first | apply Kd.V_alloc | apply Kd.V_drewN | apply Kd.V_drew)); exact HL403_0.out) hg hat); replace HB := Aside0.mk (hb); have HO406 := Aside0.mk (ho); clear HO_6; clear ho hb hg hat))
       go_roundg k2
       case measure => have := HK1.out; have := HK2.out; omega
       case rel => exact ⟨(y404), (wrap64 (x27_2 + 1)), rG, H', ⟨by have := HK1.out; have := HK2.out; omega⟩, ⟨by (with_reducible repeat (first | apply Kd.N_alloc | apply Kd.N_drewN | apply Kd.N_drew)); exact HO406.out⟩, ⟨by (with_reducible repeat (first | apply Kd.V_alloc | apply Kd.V_drewN | apply Kd.V_drew)); exact HO_25.out⟩, ⟨hB⟩⟩
      ·rw [if_neg c8] at H
       have c8b0 : decide (x27_2 < (l0.length : Int)) = false := decide_eq_false c8
       clear c8
       obtain rfl := Option.some.inj H
       go_wp2
       go_ret
       exact ⟨_, rE, by (with_reducible repeat (first | apply Kd.N_alloc | apply Kd.N_drewN | apply Kd.N_drew)); exact HO_6.out, hB⟩

end Go.Proofs.Ytglmahgliihkaaa.PY
