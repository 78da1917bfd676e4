-- Written by the session's program hprint.py, over the kit's print program. Lean checks it.
import Derived.Test.YtlfjdaoibjjakaaDoorPZx0
import Derived.Test.YtlfjdaoibjjakaaDoorPZx11
import Derived.Test.YtlfjdaoibjjakaaDoorPZx12
import Derived.Test.YtlfjdaoibjjakaaDoorPZx13
namespace Go.Proofs.YtlfjdaoibjjakaaDoor.PZ
open Go.RowKit Go.Proofs.YtlfjdaoibjjakaaDoorW.PrintWords Go.Proofs.YtlfjdaoibjjakaaDoorW.PrintLast Go.Proofs.YtlfjdaoibjjakaaDoorW.PrintMore
attribute [local go_sem] max2_int min2_int max_two min_two max_three min_three max_four min_four   -- for this text's walks alone
set_option linter.unusedVariables false
set_option linter.unusedSimpArgs false

/-! ### impl_noTwoTexts: function 59 -/
def impl_noTwoTexts.l0 : Nat → List (S33) → List (S33) → Int → Int → Option (Bool)
 | 0, _, _, _, _ => none
 | k + 1, x0, x5, x6, x7 => if x7 < x6 then (if 0 ≤ x7 then (if x7 < (x5.length : Int) then (if x7 > 0 then (if ((rd_T33 x5 x7).f0) = 2 then (if 0 ≤ (wrap64 (x7 - 1)) then (if (wrap64 (x7 - 1)) < (x0.length : Int) then (if ((rd_T33 x0 (wrap64 (x7 - 1))).f0) = 2 then (some false) else (impl_noTwoTexts.l0 k x0 x5 x6 (wrap64 (x7 + 1)))) else (none)) else (none)) else (impl_noTwoTexts.l0 k x0 x5 x6 (wrap64 (x7 + 1)))) else (impl_noTwoTexts.l0 k x0 x5 x6 (wrap64 (x7 + 1)))) else (none)) else (none)) else (some true)
def impl_noTwoTexts.f (k : Nat) (l0 : List (S33)) : Option (Bool) := impl_noTwoTexts.l0 k l0 l0 (l0.length : Int) 0
theorem impl_noTwoTexts.mono_l : ∀ k, (∀ y0 y1 y2 y3, LeO (impl_noTwoTexts.l0 k y0 y1 y2 y3) (impl_noTwoTexts.l0 (k + 1) y0 y1 y2 y3))
 | 0 => fun _ _ _ _ r h => by simp [impl_noTwoTexts.l0] at h
 | k + 1 => by
  have ih0 := impl_noTwoTexts.mono_l k
  ·intro y0 y1 y2 y3
   unfold impl_noTwoTexts.l0
   repeat' first
   | (with_reducible exact ih0 _ _ _ _)
   | (with_reducible exact LeO.refl _)
   | (with_reducible exact LeO.none _)
   | (with_reducible refine LeO.ite ?_ ?_)
   | (with_reducible refine LeO.bind ?_ (fun _ => ?_))
   | exact ih0 _ _ _ _
   | exact LeO.none _
   | refine LeO.ite ?_ ?_
   | refine LeO.bind ?_ (fun _ => ?_)
theorem impl_noTwoTexts.mono : ∀ a0 k, LeO (impl_noTwoTexts.f k a0) (impl_noTwoTexts.f (k + 1) a0) := by
 intro a0 k
 have ih0 := impl_noTwoTexts.mono_l k
 unfold impl_noTwoTexts.f
 repeat' first
   | (with_reducible exact ih0 _ _ _ _)
   | (with_reducible exact LeO.refl _)
   | (with_reducible exact LeO.none _)
   | (with_reducible refine LeO.ite ?_ ?_)
   | (with_reducible refine LeO.bind ?_ (fun _ => ?_))
   | exact ih0 _ _ _ _
   | exact LeO.none _
   | refine LeO.ite ?_ ?_
   | refine LeO.bind ?_ (fun _ => ?_)
set_option maxHeartbeats 8000000 in
set_option maxRecDepth 100000 in
theorem impl_noTwoTexts.calls (k : Nat) (A0 : Option Addr) (c0 : Nat) (l0 : List (S33)) (r : Bool) (w : World) (hr0 : Kd.C k33 w A0 l0.length l0) (hc0 : l0.length ≤ c0) (h : impl_noTwoTexts.f k l0 = some r) :
  Calls Tryd.prog 59 #[.slice A0 l0.length c0] w fun e w' => e = .returned (.bool r) ∧ Below w.heap.size w w' := by
 have hu33 := Tryd.underlying33
 have HR0 := Aside0.mk hr0
 have HC0 := Aside0.mk hc0
 clear hr0 hc0
 have HB := Aside0.mk (Below.refl w.heap.size w)
 have H : (impl_noTwoTexts.l0 k l0 l0 (l0.length : Int) 0) = some r := h
 clear h
 have H' := Aside0.mk H
 clear H
 go_enter Tryd.func59, Tryd.ntmps59
 go_wp2
 go_loopg [7] k (fun kq v7 w' => ∃ (x7_1 : Int), v7 = .int .i64 x7_1 ∧ Aside0 (impl_noTwoTexts.l0 kq l0 l0 (l0.length : Int) x7_1 = some r) ∧ Aside0 (kq ≤ k) ∧ Aside0 (Below w.heap.size w w'))
 case atStart => exact ⟨(0), rG, H', ⟨Nat.le_refl _⟩, ⟨by repeat (first|(with_reducible first|exact HB.out|apply zA|apply zN|apply zD) | exact HB.out)⟩⟩
 case round =>
  clear H'
  obtain ⟨x7_1, rfl, HA, HK1, HB⟩ := hrel
  cases gk with
  | zero => exact absurd HA.out (by simp [impl_noTwoTexts.l0])
  | succ k1 =>
   have H := HA.out
   clear HA
   simp only [impl_noTwoTexts.l0] at H
   by_cases c2 : x7_1 < (l0.length : Int)
   ·rw [if_pos c2] at H
    have c2b0 : decide (x7_1 < (l0.length : Int)) = true := decide_eq_true c2
    clear c2
    by_cases c3 : 0 ≤ x7_1
    ·rw [if_pos c3] at H
     have c3b0 : decide (0 ≤ x7_1) = true := decide_eq_true c3
     clear c3
     by_cases c4 : x7_1 < (l0.length : Int)
     ·rw [if_pos c4] at H
      have c4b0 : decide (x7_1 < (l0.length : Int)) = true := decide_eq_true c4
      clear c4
      have p293 : 0 ≤ (x7_1 : Int) := odt
      have q293 : x7_1 < (l0.length : Int) := odt
      obtain ⟨ad293, A293_4, c293_4, A293_5, c293_5, A293_6, c293_6, e293, hx293_0, hx293_1, hx293_2, hx293_3, hx293_4, hx293_5, hx293_6, hx293_7, hl293_4, hi293_4, hl293_5, hi293_5, hl293_6, hi293_6⟩ := at_T33 HR0.out x7_1 p293 q293
      cases e293
      replace hx293_0 := (HB.out.cell (World.block_lt_of_cell? w _ hx293_0)).trans hx293_0
      replace hx293_1 := (HB.out.cell (World.block_lt_of_cell? w _ hx293_1)).trans hx293_1
      replace hx293_2 := (HB.out.cell (World.block_lt_of_cell? w _ hx293_2)).trans hx293_2
      replace hx293_3 := (HB.out.cell (World.block_lt_of_cell? w _ hx293_3)).trans hx293_3
      replace hx293_4 := (HB.out.cell (World.block_lt_of_cell? w _ hx293_4)).trans hx293_4
      replace hx293_5 := (HB.out.cell (World.block_lt_of_cell? w _ hx293_5)).trans hx293_5
      replace hx293_6 := (HB.out.cell (World.block_lt_of_cell? w _ hx293_6)).trans hx293_6
      replace hx293_7 := (HB.out.cell (World.block_lt_of_cell? w _ hx293_7)).trans hx293_7
      have HR293_4 := Aside0.mk hi293_4
      have HC293_4 := Aside0.mk hl293_4
      clear hi293_4 hl293_4
      have HR293_5 := Aside0.mk hi293_5
      have HC293_5 := Aside0.mk hl293_5
      clear hi293_5 hl293_5
      have HR293_6 := Aside0.mk hi293_6
      have HC293_6 := Aside0.mk hl293_6
      clear hi293_6 hl293_6
      replace p293 := eq_true p293
      replace q293 := eq_true q293
      go_wp2_with (first | ((with_reducible refine gate_dst (N := 4) rfl ?_); refine box_event ?hg (N := 4) ?hd (cs := #[.int .i64 0, .string (⟨#[]⟩ : ByteArray), .string (⟨#[]⟩ : ByteArray), .string (⟨#[]⟩ : ByteArray), .slice none 0 0, .slice none 0 0, .slice none 0 0, .string (⟨#[]⟩ : ByteArray)]) (t := 33) ?hr ?_; (case hd => rfl); (case hg => rfl); (case hr => first | (go_simp; done) | (go_simp; rfl)); intro gb294 hg w5 hbox hb; have BK294 := Aside0.mk (hbox); have GW294 := Aside0.mk ((by rw [hg]; exact (below_size (by repeat (first|(with_reducible first|exact HB.out|apply zA|apply zN|apply zD) | exact HB.out))) : w.heap.size ≤ gb294)); have GE294 := Aside0.mk ((by rw [hg]; exact (below_size (by repeat (first|(with_reducible first|exact HB.out|apply zA|apply zN|apply zD) | exact HB.out))) : w.heap.size ≤ gb294)); replace HB := Aside0.mk (below_step (by repeat (first|(with_reducible first|exact HB.out|apply zA|apply zN|apply zD) | exact HB.out)) hb); clear hb hbox hg; obtain ⟨hcz6_0, hcz6_1, hcz6_2, hcz6_3, hcz6_4, hcz6_5, hcz6_6, hcz6_7⟩ := bc8 BK294.out; obtain ⟨hfz6_0, hfz6_1, hfz6_2, hfz6_3, hfz6_4, hfz6_5, hfz6_6, hfz6_7⟩ := bf8 BK294.out; refine halt_ ?_; intro q_ hq_))
      obtain ⟨rfl⟩ := hq_
      by_cases c7 : x7_1 > 0
      ·rw [if_pos c7] at H
       have c7b0 : decide (0 < x7_1) = true := decide_eq_true c7
       clear c7
       by_cases c8 : ((rd_T33 l0 x7_1).f0) = 2
       ·rw [if_pos c8] at H
        have c8b0 : (((rd_T33 l0 x7_1).f0) == 2) = true := beq_iff_eq.mpr c8
        have c8b1 : (((rd_T33 l0 x7_1).f0) != 2) = false := bne_eq_false_iff_eq.mpr c8
        clear c8
        obtain ⟨ji9, hji9⟩ : ∃ j_ : Int, (wrap64 (x7_1 - 1)) = j_ := ⟨_, rfl⟩
        replace H : (if 0 ≤ (ji9) then (if (ji9) < (l0.length : Int) then (if ((rd_T33 l0 (ji9)).f0) = 2 then (some false) else (impl_noTwoTexts.l0 k1 l0 l0 (l0.length : Int) (wrap64 (x7_1 + 1)))) else (none)) else (none)) = some r := by first | (rw [hji9] at H; exact H) | (simp only [hji9] at H ⊢; exact H)
        have hji9w : (IntKind.i64.wrap (x7_1 - 1)) = ji9 := (i64_w _).trans hji9
        by_cases c10 : 0 ≤ (ji9)
        ·rw [if_pos c10] at H
         have c10b0 : decide (0 ≤ (ji9)) = true := decide_eq_true c10
         clear c10
         by_cases c11 : (ji9) < (l0.length : Int)
         ·rw [if_pos c11] at H
          have c11b0 : decide ((ji9) < (l0.length : Int)) = true := decide_eq_true c11
          clear c11
          by_cases c12 : ((rd_T33 l0 (ji9)).f0) = 2
          ·rw [if_pos c12] at H
           have c12b0 : (((rd_T33 l0 (ji9)).f0) == 2) = true := beq_iff_eq.mpr c12
           have c12b1 : (((rd_T33 l0 (ji9)).f0) != 2) = false := bne_eq_false_iff_eq.mpr c12
           clear c12
           obtain rfl := Option.some.inj H
           obtain ⟨hcz13_0, hcz13_1, hcz13_2, hcz13_3, hcz13_4, hcz13_5, hcz13_6, hcz13_7⟩ := bc8 BK294.out
           obtain ⟨hfz13_0, hfz13_1, hfz13_2, hfz13_3, hfz13_4, hfz13_5, hfz13_6, hfz13_7⟩ := bf8 BK294.out
           have p295 : 0 ≤ ((ji9) : Int) := odt
           have q295 : (ji9) < (l0.length : Int) := odt
           obtain ⟨ad295, A295_4, c295_4, A295_5, c295_5, A295_6, c295_6, e295, hx295_0, hx295_1, hx295_2, hx295_3, hx295_4, hx295_5, hx295_6, hx295_7, hl295_4, hi295_4, hl295_5, hi295_5, hl295_6, hi295_6⟩ := at_T33 HR0.out (ji9) p295 q295
           obtain rfl : ad293 = ad295 := (by injection e295)
           have hn295_0 : ad293.block ≠ gb294 := Nat.ne_of_lt (Nat.lt_of_lt_of_le (by have := World.block_lt_of_cell? _ _ hx295_0; first | rwa [add_block] at this | exact this) GW294.out)
           have hn295_1 : ad293.block ≠ gb294 := Nat.ne_of_lt (Nat.lt_of_lt_of_le (by have := World.block_lt_of_cell? _ _ hx295_0; first | rwa [add_block] at this | exact this) GW294.out)
           have hn295_2 : ad293.block ≠ gb294 := Nat.ne_of_lt (Nat.lt_of_lt_of_le (by have := World.block_lt_of_cell? _ _ hx295_0; first | rwa [add_block] at this | exact this) GW294.out)
           have hn295_3 : ad293.block ≠ gb294 := Nat.ne_of_lt (Nat.lt_of_lt_of_le (by have := World.block_lt_of_cell? _ _ hx295_0; first | rwa [add_block] at this | exact this) GW294.out)
           have hn295_4 : ad293.block ≠ gb294 := Nat.ne_of_lt (Nat.lt_of_lt_of_le (by have := World.block_lt_of_cell? _ _ hx295_0; first | rwa [add_block] at this | exact this) GW294.out)
           have hn295_5 : ad293.block ≠ gb294 := Nat.ne_of_lt (Nat.lt_of_lt_of_le (by have := World.block_lt_of_cell? _ _ hx295_0; first | rwa [add_block] at this | exact this) GW294.out)
           have hn295_6 : ad293.block ≠ gb294 := Nat.ne_of_lt (Nat.lt_of_lt_of_le (by have := World.block_lt_of_cell? _ _ hx295_0; first | rwa [add_block] at this | exact this) GW294.out)
           have hn295_7 : ad293.block ≠ gb294 := Nat.ne_of_lt (Nat.lt_of_lt_of_le (by have := World.block_lt_of_cell? _ _ hx295_0; first | rwa [add_block] at this | exact this) GW294.out)
           replace hx295_0 := (HB.out.cell (World.block_lt_of_cell? w _ hx295_0)).trans hx295_0
           replace hx295_1 := (HB.out.cell (World.block_lt_of_cell? w _ hx295_1)).trans hx295_1
           replace hx295_2 := (HB.out.cell (World.block_lt_of_cell? w _ hx295_2)).trans hx295_2
           replace hx295_3 := (HB.out.cell (World.block_lt_of_cell? w _ hx295_3)).trans hx295_3
           replace hx295_4 := (HB.out.cell (World.block_lt_of_cell? w _ hx295_4)).trans hx295_4
           replace hx295_5 := (HB.out.cell (World.block_lt_of_cell? w _ hx295_5)).trans hx295_5
           replace hx295_6 := (HB.out.cell (World.block_lt_of_cell? w _ hx295_6)).trans hx295_6
           replace hx295_7 := (HB.out.cell (World.block_lt_of_cell? w _ hx295_7)).trans hx295_7
           have HR295_4 := Aside0.mk hi295_4
           have HC295_4 := Aside0.mk hl295_4
           clear hi295_4 hl295_4
           have HR295_5 := Aside0.mk hi295_5
           have HC295_5 := Aside0.mk hl295_5
           clear hi295_5 hl295_5
           have HR295_6 := Aside0.mk hi295_6
           have HC295_6 := Aside0.mk hl295_6
           clear hi295_6 hl295_6
           replace hx295_0 := (cell_far (p := ⟨gb294, 0, none⟩) (by first | (rw [add_block]; exact hn295_0) | (show (Addr.add _ _).block ≠ _; rw [add_block]; exact hn295_0) | exact hn295_0) (.int .i64 ((rd_T33 l0 x7_1).f0))).trans hx295_0
           replace hx295_1 := (cell_far (p := ⟨gb294, 0, none⟩) (by first | (rw [add_block]; exact hn295_0) | (show (Addr.add _ _).block ≠ _; rw [add_block]; exact hn295_0) | exact hn295_0) (.int .i64 ((rd_T33 l0 x7_1).f0))).trans hx295_1
           replace hx295_2 := (cell_far (p := ⟨gb294, 0, none⟩) (by first | (rw [add_block]; exact hn295_0) | (show (Addr.add _ _).block ≠ _; rw [add_block]; exact hn295_0) | exact hn295_0) (.int .i64 ((rd_T33 l0 x7_1).f0))).trans hx295_2
           replace hx295_3 := (cell_far (p := ⟨gb294, 0, none⟩) (by first | (rw [add_block]; exact hn295_0) | (show (Addr.add _ _).block ≠ _; rw [add_block]; exact hn295_0) | exact hn295_0) (.int .i64 ((rd_T33 l0 x7_1).f0))).trans hx295_3
           replace hx295_4 := (cell_far (p := ⟨gb294, 0, none⟩) (by first | (rw [add_block]; exact hn295_0) | (show (Addr.add _ _).block ≠ _; rw [add_block]; exact hn295_0) | exact hn295_0) (.int .i64 ((rd_T33 l0 x7_1).f0))).trans hx295_4
           replace hx295_5 := (cell_far (p := ⟨gb294, 0, none⟩) (by first | (rw [add_block]; exact hn295_0) | (show (Addr.add _ _).block ≠ _; rw [add_block]; exact hn295_0) | exact hn295_0) (.int .i64 ((rd_T33 l0 x7_1).f0))).trans hx295_5
           replace hx295_6 := (cell_far (p := ⟨gb294, 0, none⟩) (by first | (rw [add_block]; exact hn295_0) | (show (Addr.add _ _).block ≠ _; rw [add_block]; exact hn295_0) | exact hn295_0) (.int .i64 ((rd_T33 l0 x7_1).f0))).trans hx295_6
           replace hx295_7 := (cell_far (p := ⟨gb294, 0, none⟩) (by first | (rw [add_block]; exact hn295_0) | (show (Addr.add _ _).block ≠ _; rw [add_block]; exact hn295_0) | exact hn295_0) (.int .i64 ((rd_T33 l0 x7_1).f0))).trans hx295_7
           replace hx295_0 := (cell_far (p := ⟨gb294, 1, none⟩) (by first | (rw [add_block]; exact hn295_1) | (show (Addr.add _ _).block ≠ _; rw [add_block]; exact hn295_1) | exact hn295_1) (.string ((rd_T33 l0 x7_1).f1))).trans hx295_0
           replace hx295_1 := (cell_far (p := ⟨gb294, 1, none⟩) (by first | (rw [add_block]; exact hn295_1) | (show (Addr.add _ _).block ≠ _; rw [add_block]; exact hn295_1) | exact hn295_1) (.string ((rd_T33 l0 x7_1).f1))).trans hx295_1
           replace hx295_2 := (cell_far (p := ⟨gb294, 1, none⟩) (by first | (rw [add_block]; exact hn295_1) | (show (Addr.add _ _).block ≠ _; rw [add_block]; exact hn295_1) | exact hn295_1) (.string ((rd_T33 l0 x7_1).f1))).trans hx295_2
           replace hx295_3 := (cell_far (p := ⟨gb294, 1, none⟩) (by first | (rw [add_block]; exact hn295_1) | (show (Addr.add _ _).block ≠ _; rw [add_block]; exact hn295_1) | exact hn295_1) (.string ((rd_T33 l0 x7_1).f1))).trans hx295_3
           replace hx295_4 := (cell_far (p := ⟨gb294, 1, none⟩) (by first | (rw [add_block]; exact hn295_1) | (show (Addr.add _ _).block ≠ _; rw [add_block]; exact hn295_1) | exact hn295_1) (.string ((rd_T33 l0 x7_1).f1))).trans hx295_4
           replace hx295_5 := (cell_far (p := ⟨gb294, 1, none⟩) (by first | (rw [add_block]; exact hn295_1) | (show (Addr.add _ _).block ≠ _; rw [add_block]; exact hn295_1) | exact hn295_1) (.string ((rd_T33 l0 x7_1).f1))).trans hx295_5
           replace hx295_6 := (cell_far (p := ⟨gb294, 1, none⟩) (by first | (rw [add_block]; exact hn295_1) | (show (Addr.add _ _).block ≠ _; rw [add_block]; exact hn295_1) | exact hn295_1) (.string ((rd_T33 l0 x7_1).f1))).trans hx295_6
           replace hx295_7 := (cell_far (p := ⟨gb294, 1, none⟩) (by first | (rw [add_block]; exact hn295_1) | (show (Addr.add _ _).block ≠ _; rw [add_block]; exact hn295_1) | exact hn295_1) (.string ((rd_T33 l0 x7_1).f1))).trans hx295_7
           replace hx295_0 := (cell_far (p := ⟨gb294, 2, none⟩) (by first | (rw [add_block]; exact hn295_2) | (show (Addr.add _ _).block ≠ _; rw [add_block]; exact hn295_2) | exact hn295_2) (.string ((rd_T33 l0 x7_1).f2))).trans hx295_0
           replace hx295_1 := (cell_far (p := ⟨gb294, 2, none⟩) (by first | (rw [add_block]; exact hn295_2) | (show (Addr.add _ _).block ≠ _; rw [add_block]; exact hn295_2) | exact hn295_2) (.string ((rd_T33 l0 x7_1).f2))).trans hx295_1
           replace hx295_2 := (cell_far (p := ⟨gb294, 2, none⟩) (by first | (rw [add_block]; exact hn295_2) | (show (Addr.add _ _).block ≠ _; rw [add_block]; exact hn295_2) | exact hn295_2) (.string ((rd_T33 l0 x7_1).f2))).trans hx295_2
           replace hx295_3 := (cell_far (p := ⟨gb294, 2, none⟩) (by first | (rw [add_block]; exact hn295_2) | (show (Addr.add _ _).block ≠ _; rw [add_block]; exact hn295_2) | exact hn295_2) (.string ((rd_T33 l0 x7_1).f2))).trans hx295_3
           replace hx295_4 := (cell_far (p := ⟨gb294, 2, none⟩) (by first | (rw [add_block]; exact hn295_2) | (show (Addr.add _ _).block ≠ _; rw [add_block]; exact hn295_2) | exact hn295_2) (.string ((rd_T33 l0 x7_1).f2))).trans hx295_4
           replace hx295_5 := (cell_far (p := ⟨gb294, 2, none⟩) (by first | (rw [add_block]; exact hn295_2) | (show (Addr.add _ _).block ≠ _; rw [add_block]; exact hn295_2) | exact hn295_2) (.string ((rd_T33 l0 x7_1).f2))).trans hx295_5
           replace hx295_6 := (cell_far (p := ⟨gb294, 2, none⟩) (by first | (rw [add_block]; exact hn295_2) | (show (Addr.add _ _).block ≠ _; rw [add_block]; exact hn295_2) | exact hn295_2) (.string ((rd_T33 l0 x7_1).f2))).trans hx295_6
           replace hx295_7 := (cell_far (p := ⟨gb294, 2, none⟩) (by first | (rw [add_block]; exact hn295_2) | (show (Addr.add _ _).block ≠ _; rw [add_block]; exact hn295_2) | exact hn295_2) (.string ((rd_T33 l0 x7_1).f2))).trans hx295_7
           replace hx295_0 := (cell_far (p := ⟨gb294, 3, none⟩) (by first | (rw [add_block]; exact hn295_3) | (show (Addr.add _ _).block ≠ _; rw [add_block]; exact hn295_3) | exact hn295_3) (.string ((rd_T33 l0 x7_1).f3))).trans hx295_0
           replace hx295_1 := (cell_far (p := ⟨gb294, 3, none⟩) (by first | (rw [add_block]; exact hn295_3) | (show (Addr.add _ _).block ≠ _; rw [add_block]; exact hn295_3) | exact hn295_3) (.string ((rd_T33 l0 x7_1).f3))).trans hx295_1
           replace hx295_2 := (cell_far (p := ⟨gb294, 3, none⟩) (by first | (rw [add_block]; exact hn295_3) | (show (Addr.add _ _).block ≠ _; rw [add_block]; exact hn295_3) | exact hn295_3) (.string ((rd_T33 l0 x7_1).f3))).trans hx295_2
           replace hx295_3 := (cell_far (p := ⟨gb294, 3, none⟩) (by first | (rw [add_block]; exact hn295_3) | (show (Addr.add _ _).block ≠ _; rw [add_block]; exact hn295_3) | exact hn295_3) (.string ((rd_T33 l0 x7_1).f3))).trans hx295_3
           replace hx295_4 := (cell_far (p := ⟨gb294, 3, none⟩) (by first | (rw [add_block]; exact hn295_3) | (show (Addr.add _ _).block ≠ _; rw [add_block]; exact hn295_3) | exact hn295_3) (.string ((rd_T33 l0 x7_1).f3))).trans hx295_4
           replace hx295_5 := (cell_far (p := ⟨gb294, 3, none⟩) (by first | (rw [add_block]; exact hn295_3) | (show (Addr.add _ _).block ≠ _; rw [add_block]; exact hn295_3) | exact hn295_3) (.string ((rd_T33 l0 x7_1).f3))).trans hx295_5
           replace hx295_6 := (cell_far (p := ⟨gb294, 3, none⟩) (by first | (rw [add_block]; exact hn295_3) | (show (Addr.add _ _).block ≠ _; rw [add_block]; exact hn295_3) | exact hn295_3) (.string ((rd_T33 l0 x7_1).f3))).trans hx295_6
           replace hx295_7 := (cell_far (p := ⟨gb294, 3, none⟩) (by first | (rw [add_block]; exact hn295_3) | (show (Addr.add _ _).block ≠ _; rw [add_block]; exact hn295_3) | exact hn295_3) (.string ((rd_T33 l0 x7_1).f3))).trans hx295_7
           replace hx295_0 := (cell_far (p := ⟨gb294, 4, none⟩) (by first | (rw [add_block]; exact hn295_4) | (show (Addr.add _ _).block ≠ _; rw [add_block]; exact hn295_4) | exact hn295_4) (.slice A293_4 ((rd_T33 l0 x7_1).f4).length c293_4)).trans hx295_0
           replace hx295_1 := (cell_far (p := ⟨gb294, 4, none⟩) (by first | (rw [add_block]; exact hn295_4) | (show (Addr.add _ _).block ≠ _; rw [add_block]; exact hn295_4) | exact hn295_4) (.slice A293_4 ((rd_T33 l0 x7_1).f4).length c293_4)).trans hx295_1
           replace hx295_2 := (cell_far (p := ⟨gb294, 4, none⟩) (by first | (rw [add_block]; exact hn295_4) | (show (Addr.add _ _).block ≠ _; rw [add_block]; exact hn295_4) | exact hn295_4) (.slice A293_4 ((rd_T33 l0 x7_1).f4).length c293_4)).trans hx295_2
           replace hx295_3 := (cell_far (p := ⟨gb294, 4, none⟩) (by first | (rw [add_block]; exact hn295_4) | (show (Addr.add _ _).block ≠ _; rw [add_block]; exact hn295_4) | exact hn295_4) (.slice A293_4 ((rd_T33 l0 x7_1).f4).length c293_4)).trans hx295_3
           replace hx295_4 := (cell_far (p := ⟨gb294, 4, none⟩) (by first | (rw [add_block]; exact hn295_4) | (show (Addr.add _ _).block ≠ _; rw [add_block]; exact hn295_4) | exact hn295_4) (.slice A293_4 ((rd_T33 l0 x7_1).f4).length c293_4)).trans hx295_4
           replace hx295_5 := (cell_far (p := ⟨gb294, 4, none⟩) (by first | (rw [add_block]; exact hn295_4) | (show (Addr.add _ _).block ≠ _; rw [add_block]; exact hn295_4) | exact hn295_4) (.slice A293_4 ((rd_T33 l0 x7_1).f4).length c293_4)).trans hx295_5
           replace hx295_6 := (cell_far (p := ⟨gb294, 4, none⟩) (by first | (rw [add_block]; exact hn295_4) | (show (Addr.add _ _).block ≠ _; rw [add_block]; exact hn295_4) | exact hn295_4) (.slice A293_4 ((rd_T33 l0 x7_1).f4).length c293_4)).trans hx295_6
           replace hx295_7 := (cell_far (p := ⟨gb294, 4, none⟩) (by first | (rw [add_block]; exact hn295_4) | (show (Addr.add _ _).block ≠ _; rw [add_block]; exact hn295_4) | exact hn295_4) (.slice A293_4 ((rd_T33 l0 x7_1).f4).length c293_4)).trans hx295_7
           replace hx295_0 := (cell_far (p := ⟨gb294, 5, none⟩) (by first | (rw [add_block]; exact hn295_5) | (show (Addr.add _ _).block ≠ _; rw [add_block]; exact hn295_5) | exact hn295_5) (.slice A293_5 ((rd_T33 l0 x7_1).f5).length c293_5)).trans hx295_0
           replace hx295_1 := (cell_far (p := ⟨gb294, 5, none⟩) (by first | (rw [add_block]; exact hn295_5) | (show (Addr.add _ _).block ≠ _; rw [add_block]; exact hn295_5) | exact hn295_5) (.slice A293_5 ((rd_T33 l0 x7_1).f5).length c293_5)).trans hx295_1
           replace hx295_2 := (cell_far (p := ⟨gb294, 5, none⟩) (by first | (rw [add_block]; exact hn295_5) | (show (Addr.add _ _).block ≠ _; rw [add_block]; exact hn295_5) | exact hn295_5) (.slice A293_5 ((rd_T33 l0 x7_1).f5).length c293_5)).trans hx295_2
           replace hx295_3 := (cell_far (p := ⟨gb294, 5, none⟩) (by first | (rw [add_block]; exact hn295_5) | (show (Addr.add _ _).block ≠ _; rw [add_block]; exact hn295_5) | exact hn295_5) (.slice A293_5 ((rd_T33 l0 x7_1).f5).length c293_5)).trans hx295_3
           replace hx295_4 := (cell_far (p := ⟨gb294, 5, none⟩) (by first | (rw [add_block]; exact hn295_5) | (show (Addr.add _ _).block ≠ _; rw [add_block]; exact hn295_5) | exact hn295_5) (.slice A293_5 ((rd_T33 l0 x7_1).f5).length c293_5)).trans hx295_4
           replace hx295_5 := (cell_far (p := ⟨gb294, 5, none⟩) (by first | (rw [add_block]; exact hn295_5) | (show (Addr.add _ _).block ≠ _; rw [add_block]; exact hn295_5) | exact hn295_5) (.slice A293_5 ((rd_T33 l0 x7_1).f5).length c293_5)).trans hx295_5
           replace hx295_6 := (cell_far (p := ⟨gb294, 5, none⟩) (by first | (rw [add_block]; exact hn295_5) | (show (Addr.add _ _).block ≠ _; rw [add_block]; exact hn295_5) | exact hn295_5) (.slice A293_5 ((rd_T33 l0 x7_1).f5).length c293_5)).trans hx295_6
           replace hx295_7 := (cell_far (p := ⟨gb294, 5, none⟩) (by first | (rw [add_block]; exact hn295_5) | (show (Addr.add _ _).block ≠ _; rw [add_block]; exact hn295_5) | exact hn295_5) (.slice A293_5 ((rd_T33 l0 x7_1).f5).length c293_5)).trans hx295_7
           replace hx295_0 := (cell_far (p := ⟨gb294, 6, none⟩) (by first | (rw [add_block]; exact hn295_6) | (show (Addr.add _ _).block ≠ _; rw [add_block]; exact hn295_6) | exact hn295_6) (.slice A293_6 ((rd_T33 l0 x7_1).f6).length c293_6)).trans hx295_0
           replace hx295_1 := (cell_far (p := ⟨gb294, 6, none⟩) (by first | (rw [add_block]; exact hn295_6) | (show (Addr.add _ _).block ≠ _; rw [add_block]; exact hn295_6) | exact hn295_6) (.slice A293_6 ((rd_T33 l0 x7_1).f6).length c293_6)).trans hx295_1
           replace hx295_2 := (cell_far (p := ⟨gb294, 6, none⟩) (by first | (rw [add_block]; exact hn295_6) | (show (Addr.add _ _).block ≠ _; rw [add_block]; exact hn295_6) | exact hn295_6) (.slice A293_6 ((rd_T33 l0 x7_1).f6).length c293_6)).trans hx295_2
           replace hx295_3 := (cell_far (p := ⟨gb294, 6, none⟩) (by first | (rw [add_block]; exact hn295_6) | (show (Addr.add _ _).block ≠ _; rw [add_block]; exact hn295_6) | exact hn295_6) (.slice A293_6 ((rd_T33 l0 x7_1).f6).length c293_6)).trans hx295_3
           replace hx295_4 := (cell_far (p := ⟨gb294, 6, none⟩) (by first | (rw [add_block]; exact hn295_6) | (show (Addr.add _ _).block ≠ _; rw [add_block]; exact hn295_6) | exact hn295_6) (.slice A293_6 ((rd_T33 l0 x7_1).f6).length c293_6)).trans hx295_4
           replace hx295_5 := (cell_far (p := ⟨gb294, 6, none⟩) (by first | (rw [add_block]; exact hn295_6) | (show (Addr.add _ _).block ≠ _; rw [add_block]; exact hn295_6) | exact hn295_6) (.slice A293_6 ((rd_T33 l0 x7_1).f6).length c293_6)).trans hx295_5
           replace hx295_6 := (cell_far (p := ⟨gb294, 6, none⟩) (by first | (rw [add_block]; exact hn295_6) | (show (Addr.add _ _).block ≠ _; rw [add_block]; exact hn295_6) | exact hn295_6) (.slice A293_6 ((rd_T33 l0 x7_1).f6).length c293_6)).trans hx295_6
           replace hx295_7 := (cell_far (p := ⟨gb294, 6, none⟩) (by first | (rw [add_block]; exact hn295_6) | (show (Addr.add _ _).block ≠ _; rw [add_block]; exact hn295_6) | exact hn295_6) (.slice A293_6 ((rd_T33 l0 x7_1).f6).length c293_6)).trans hx295_7
           replace hx295_0 := (cell_far (p := ⟨gb294, 7, none⟩) (by first | (rw [add_block]; exact hn295_7) | (show (Addr.add _ _).block ≠ _; rw [add_block]; exact hn295_7) | exact hn295_7) (.string ((rd_T33 l0 x7_1).f7))).trans hx295_0
           replace hx295_1 := (cell_far (p := ⟨gb294, 7, none⟩) (by first | (rw [add_block]; exact hn295_7) | (show (Addr.add _ _).block ≠ _; rw [add_block]; exact hn295_7) | exact hn295_7) (.string ((rd_T33 l0 x7_1).f7))).trans hx295_1
           replace hx295_2 := (cell_far (p := ⟨gb294, 7, none⟩) (by first | (rw [add_block]; exact hn295_7) | (show (Addr.add _ _).block ≠ _; rw [add_block]; exact hn295_7) | exact hn295_7) (.string ((rd_T33 l0 x7_1).f7))).trans hx295_2
           replace hx295_3 := (cell_far (p := ⟨gb294, 7, none⟩) (by first | (rw [add_block]; exact hn295_7) | (show (Addr.add _ _).block ≠ _; rw [add_block]; exact hn295_7) | exact hn295_7) (.string ((rd_T33 l0 x7_1).f7))).trans hx295_3
           replace hx295_4 := (cell_far (p := ⟨gb294, 7, none⟩) (by first | (rw [add_block]; exact hn295_7) | (show (Addr.add _ _).block ≠ _; rw [add_block]; exact hn295_7) | exact hn295_7) (.string ((rd_T33 l0 x7_1).f7))).trans hx295_4
           replace hx295_5 := (cell_far (p := ⟨gb294, 7, none⟩) (by first | (rw [add_block]; exact hn295_7) | (show (Addr.add _ _).block ≠ _; rw [add_block]; exact hn295_7) | exact hn295_7) (.string ((rd_T33 l0 x7_1).f7))).trans hx295_5
           replace hx295_6 := (cell_far (p := ⟨gb294, 7, none⟩) (by first | (rw [add_block]; exact hn295_7) | (show (Addr.add _ _).block ≠ _; rw [add_block]; exact hn295_7) | exact hn295_7) (.string ((rd_T33 l0 x7_1).f7))).trans hx295_6
           replace hx295_7 := (cell_far (p := ⟨gb294, 7, none⟩) (by first | (rw [add_block]; exact hn295_7) | (show (Addr.add _ _).block ≠ _; rw [add_block]; exact hn295_7) | exact hn295_7) (.string ((rd_T33 l0 x7_1).f7))).trans hx295_7
           clear hn295_0
           clear hn295_1
           clear hn295_2
           clear hn295_3
           clear hn295_4
           clear hn295_5
           clear hn295_6
           clear hn295_7
           replace p295 := eq_true p295
           replace q295 := eq_true q295
           go_wp2
           go_ret
           exact ⟨by first | rfl | (simp [errW_none, errW_some] <;> rfl) | (simp only [← hji9]; first | rfl | (simp [errW_none, errW_some] <;> rfl)) | (simp [*, errW_none, errW_some] <;> rfl), by repeat (first|(with_reducible first|exact HB.out|apply zA|apply zN|apply zD | refine below_set ?_ GE294.out) | exact HB.out)⟩
          ·rw [if_neg c12] at H
           have c12b0 : (((rd_T33 l0 (ji9)).f0) == 2) = false := beq_eq_false_iff_ne.mpr c12
           have c12b1 : (((rd_T33 l0 (ji9)).f0) != 2) = true := bne_iff_ne.mpr c12
           have H' := Aside0.mk H
           clear H
           obtain ⟨hcz14_0, hcz14_1, hcz14_2, hcz14_3, hcz14_4, hcz14_5, hcz14_6, hcz14_7⟩ := bc8 BK294.out
           obtain ⟨hfz14_0, hfz14_1, hfz14_2, hfz14_3, hfz14_4, hfz14_5, hfz14_6, hfz14_7⟩ := bf8 BK294.out
           have p295 : 0 ≤ ((ji9) : Int) := odt
           have q295 : (ji9) < (l0.length : Int) := odt
           obtain ⟨ad295, A295_4, c295_4, A295_5, c295_5, A295_6, c295_6, e295, hx295_0, hx295_1, hx295_2, hx295_3, hx295_4, hx295_5, hx295_6, hx295_7, hl295_4, hi295_4, hl295_5, hi295_5, hl295_6, hi295_6⟩ := at_T33 HR0.out (ji9) p295 q295
           obtain rfl : ad293 = ad295 := (by injection e295)
           have hn295_0 : ad293.block ≠ gb294 := Nat.ne_of_lt (Nat.lt_of_lt_of_le (by have := World.block_lt_of_cell? _ _ hx295_0; first | rwa [add_block] at this | exact this) GW294.out)
           have hn295_1 : ad293.block ≠ gb294 := Nat.ne_of_lt (Nat.lt_of_lt_of_le (by have := World.block_lt_of_cell? _ _ hx295_0; first | rwa [add_block] at this | exact this) GW294.out)
           have hn295_2 : ad293.block ≠ gb294 := Nat.ne_of_lt (Nat.lt_of_lt_of_le (by have := World.block_lt_of_cell? _ _ hx295_0; first | rwa [add_block] at this | exact this) GW294.out)
           have hn295_3 : ad293.block ≠ gb294 := Nat.ne_of_lt (Nat.lt_of_lt_of_le (by have := World.block_lt_of_cell? _ _ hx295_0; first | rwa [add_block] at this | exact this) GW294.out)
           have hn295_4 : ad293.block ≠ gb294 := Nat.ne_of_lt (Nat.lt_of_lt_of_le (by have := World.block_lt_of_cell? _ _ hx295_0; first | rwa [add_block] at this | exact this) GW294.out)
           have hn295_5 : ad293.block ≠ gb294 := Nat.ne_of_lt (Nat.lt_of_lt_of_le (by have := World.block_lt_of_cell? _ _ hx295_0; first | rwa [add_block] at this | exact this) GW294.out)
           have hn295_6 : ad293.block ≠ gb294 := Nat.ne_of_lt (Nat.lt_of_lt_of_le (by have := World.block_lt_of_cell? _ _ hx295_0; first | rwa [add_block] at this | exact this) GW294.out)
           have hn295_7 : ad293.block ≠ gb294 := Nat.ne_of_lt (Nat.lt_of_lt_of_le (by have := World.block_lt_of_cell? _ _ hx295_0; first | rwa [add_block] at this | exact this) GW294.out)
           replace hx295_0 := (HB.out.cell (World.block_lt_of_cell? w _ hx295_0)).trans hx295_0
           replace hx295_1 := (HB.out.cell (World.block_lt_of_cell? w _ hx295_1)).trans hx295_1
           replace hx295_2 := (HB.out.cell (World.block_lt_of_cell? w _ hx295_2)).trans hx295_2
           replace hx295_3 := (HB.out.cell (World.block_lt_of_cell? w _ hx295_3)).trans hx295_3
           replace hx295_4 := (HB.out.cell (World.block_lt_of_cell? w _ hx295_4)).trans hx295_4
           replace hx295_5 := (HB.out.cell (World.block_lt_of_cell? w _ hx295_5)).trans hx295_5
           replace hx295_6 := (HB.out.cell (World.block_lt_of_cell? w _ hx295_6)).trans hx295_6
           replace hx295_7 := (HB.out.cell (World.block_lt_of_cell? w _ hx295_7)).trans hx295_7
           have HR295_4 := Aside0.mk hi295_4
           have HC295_4 := Aside0.mk hl295_4
           clear hi295_4 hl295_4
           have HR295_5 := Aside0.mk hi295_5
           have HC295_5 := Aside0.mk hl295_5
           clear hi295_5 hl295_5
           have HR295_6 := Aside0.mk hi295_6
           have HC295_6 := Aside0.mk hl295_6
           clear hi295_6 hl295_6
           replace hx295_0 := (cell_far (p := ⟨gb294, 0, none⟩) (by first | (rw [add_block]; exact hn295_0) | (show (Addr.add _ _).block ≠ _; rw [add_block]; exact hn295_0) | exact hn295_0) (.int .i64 ((rd_T33 l0 x7_1).f0))).trans hx295_0
           replace hx295_1 := (cell_far (p := ⟨gb294, 0, none⟩) (by first | (rw [add_block]; exact hn295_0) | (show (Addr.add _ _).block ≠ _; rw [add_block]; exact hn295_0) | exact hn295_0) (.int .i64 ((rd_T33 l0 x7_1).f0))).trans hx295_1
           replace hx295_2 := (cell_far (p := ⟨gb294, 0, none⟩) (by first | (rw [add_block]; exact hn295_0) | (show (Addr.add _ _).block ≠ _; rw [add_block]; exact hn295_0) | exact hn295_0) (.int .i64 ((rd_T33 l0 x7_1).f0))).trans hx295_2
           replace hx295_3 := (cell_far (p := ⟨gb294, 0, none⟩) (by first | (rw [add_block]; exact hn295_0) | (show (Addr.add _ _).block ≠ _; rw [add_block]; exact hn295_0) | exact hn295_0) (.int .i64 ((rd_T33 l0 x7_1).f0))).trans hx295_3
           replace hx295_4 := (cell_far (p := ⟨gb294, 0, none⟩) (by first | (rw [add_block]; exact hn295_0) | (show (Addr.add _ _).block ≠ _; rw [add_block]; exact hn295_0) | exact hn295_0) (.int .i64 ((rd_T33 l0 x7_1).f0))).trans hx295_4
           replace hx295_5 := (cell_far (p := ⟨gb294, 0, none⟩) (by first | (rw [add_block]; exact hn295_0) | (show (Addr.add _ _).block ≠ _; rw [add_block]; exact hn295_0) | exact hn295_0) (.int .i64 ((rd_T33 l0 x7_1).f0))).trans hx295_5
           replace hx295_6 := (cell_far (p := ⟨gb294, 0, none⟩) (by first | (rw [add_block]; exact hn295_0) | (show (Addr.add _ _).block ≠ _; rw [add_block]; exact hn295_0) | exact hn295_0) (.int .i64 ((rd_T33 l0 x7_1).f0))).trans hx295_6
           replace hx295_7 := (cell_far (p := ⟨gb294, 0, none⟩) (by first | (rw [add_block]; exact hn295_0) | (show (Addr.add _ _).block ≠ _; rw [add_block]; exact hn295_0) | exact hn295_0) (.int .i64 ((rd_T33 l0 x7_1).f0))).trans hx295_7
           replace hx295_0 := (cell_far (p := ⟨gb294, 1, none⟩) (by first | (rw [add_block]; exact hn295_1) | (show (Addr.add _ _).block ≠ _; rw [add_block]; exact hn295_1) | exact hn295_1) (.string ((rd_T33 l0 x7_1).f1))).trans hx295_0
           replace hx295_1 := (cell_far (p := ⟨gb294, 1, none⟩) (by first | (rw [add_block]; exact hn295_1) | (show (Addr.add _ _).block ≠ _; rw [add_block]; exact hn295_1) | exact hn295_1) (.string ((rd_T33 l0 x7_1).f1))).trans hx295_1
           replace hx295_2 := (cell_far (p := ⟨gb294, 1, none⟩) (by first | (rw [add_block]; exact hn295_1) | (show (Addr.add _ _).block ≠ _; rw [add_block]; exact hn295_1) | exact hn295_1) (.string ((rd_T33 l0 x7_1).f1))).trans hx295_2
           replace hx295_3 := (cell_far (p := ⟨gb294, 1, none⟩) (by first | (rw [add_block]; exact hn295_1) | (show (Addr.add _ _).block ≠ _; rw [add_block]; exact hn295_1) | exact hn295_1) (.string ((rd_T33 l0 x7_1).f1))).trans hx295_3
           replace hx295_4 := (cell_far (p := ⟨gb294, 1, none⟩) (by first | (rw [add_block]; exact hn295_1) | (show (Addr.add _ _).block ≠ _; rw [add_block]; exact hn295_1) | exact hn295_1) (.string ((rd_T33 l0 x7_1).f1))).trans hx295_4
           replace hx295_5 := (cell_far (p := ⟨gb294, 1, none⟩) (by first | (rw [add_block]; exact hn295_1) | (show (Addr.add _ _).block ≠ _; rw [add_block]; exact hn295_1) | exact hn295_1) (.string ((rd_T33 l0 x7_1).f1))).trans hx295_5
           replace hx295_6 := (cell_far (p := ⟨gb294, 1, none⟩) (by first | (rw [add_block]; exact hn295_1) | (show (Addr.add _ _).block ≠ _; rw [add_block]; exact hn295_1) | exact hn295_1) (.string ((rd_T33 l0 x7_1).f1))).trans hx295_6
           replace hx295_7 := (cell_far (p := ⟨gb294, 1, none⟩) (by first | (rw [add_block]; exact hn295_1) | (show (Addr.add _ _).block ≠ _; rw [add_block]; exact hn295_1) | exact hn295_1) (.string ((rd_T33 l0 x7_1).f1))).trans hx295_7
           replace hx295_0 := (cell_far (p := ⟨gb294, 2, none⟩) (by first | (rw [add_block]; exact hn295_2) | (show (Addr.add _ _).block ≠ _; rw [add_block]; exact hn295_2) | exact hn295_2) (.string ((rd_T33 l0 x7_1).f2))).trans hx295_0
           replace hx295_1 := (cell_far (p := ⟨gb294, 2, none⟩) (by first | (rw [add_block]; exact hn295_2) | (show (Addr.add _ _).block ≠ _; rw [add_block]; exact hn295_2) | exact hn295_2) (.string ((rd_T33 l0 x7_1).f2))).trans hx295_1
           replace hx295_2 := (cell_far (p := ⟨gb294, 2, none⟩) (by first | (rw [add_block]; exact hn295_2) | (show (Addr.add _ _).block ≠ _; rw [add_block]; exact hn295_2) | exact hn295_2) (.string ((rd_T33 l0 x7_1).f2))).trans hx295_2
           replace hx295_3 := (cell_far (p := ⟨gb294, 2, none⟩) (by first | (rw [add_block]; exact hn295_2) | (show (Addr.add _ _).block ≠ _; rw [add_block]; exact hn295_2) | exact hn295_2) (.string ((rd_T33 l0 x7_1).f2))).trans hx295_3
           replace hx295_4 := (cell_far (p := ⟨gb294, 2, none⟩) (by first | (rw [add_block]; exact hn295_2) | (show (Addr.add _ _).block ≠ _; rw [add_block]; exact hn295_2) | exact hn295_2) (.string ((rd_T33 l0 x7_1).f2))).trans hx295_4
           replace hx295_5 := (cell_far (p := ⟨gb294, 2, none⟩) (by first | (rw [add_block]; exact hn295_2) | (show (Addr.add _ _).block ≠ _; rw [add_block]; exact hn295_2) | exact hn295_2) (.string ((rd_T33 l0 x7_1).f2))).trans hx295_5
           replace hx295_6 := (cell_far (p := ⟨gb294, 2, none⟩) (by first | (rw [add_block]; exact hn295_2) | (show (Addr.add _ _).block ≠ _; rw [add_block]; exact hn295_2) | exact hn295_2) (.string ((rd_T33 l0 x7_1).f2))).trans hx295_6
           replace hx295_7 := (cell_far (p := ⟨gb294, 2, none⟩) (by first | (rw [add_block]; exact hn295_2) | (show (Addr.add _ _).block ≠ _; rw [add_block]; exact hn295_2) | exact hn295_2) (.string ((rd_T33 l0 x7_1).f2))).trans hx295_7
           replace hx295_0 := (cell_far (p := ⟨gb294, 3, none⟩) (by first | (rw [add_block]; exact hn295_3) | (show (Addr.add _ _).block ≠ _; rw [add_block]; exact hn295_3) | exact hn295_3) (.string ((rd_T33 l0 x7_1).f3))).trans hx295_0
           replace hx295_1 := (cell_far (p := ⟨gb294, 3, none⟩) (by first | (rw [add_block]; exact hn295_3) | (show (Addr.add _ _).block ≠ _; rw [add_block]; exact hn295_3) | exact hn295_3) (.string ((rd_T33 l0 x7_1).f3))).trans hx295_1
           replace hx295_2 := (cell_far (p := ⟨gb294, 3, none⟩) (by first | (rw [add_block]; exact hn295_3) | (show (Addr.add _ _).block ≠ _; rw [add_block]; exact hn295_3) | exact hn295_3) (.string ((rd_T33 l0 x7_1).f3))).trans hx295_2
           replace hx295_3 := (cell_far (p := ⟨gb294, 3, none⟩) (by first | (rw [add_block]; exact hn295_3) | (show (Addr.add _ _).block ≠ _; rw [add_block]; exact hn295_3) | exact hn295_3) (.string ((rd_T33 l0 x7_1).f3))).trans hx295_3
           replace hx295_4 := (cell_far (p := ⟨gb294, 3, none⟩) (by first | (rw [add_block]; exact hn295_3) | (show (Addr.add _ _).block ≠ _; rw [add_block]; exact hn295_3) | exact hn295_3) (.string ((rd_T33 l0 x7_1).f3))).trans hx295_4
           replace hx295_5 := (cell_far (p := ⟨gb294, 3, none⟩) (by first | (rw [add_block]; exact hn295_3) | (show (Addr.add _ _).block ≠ _; rw [add_block]; exact hn295_3) | exact hn295_3) (.string ((rd_T33 l0 x7_1).f3))).trans hx295_5
           replace hx295_6 := (cell_far (p := ⟨gb294, 3, none⟩) (by first | (rw [add_block]; exact hn295_3) | (show (Addr.add _ _).block ≠ _; rw [add_block]; exact hn295_3) | exact hn295_3) (.string ((rd_T33 l0 x7_1).f3))).trans hx295_6
           replace hx295_7 := (cell_far (p := ⟨gb294, 3, none⟩) (by first | (rw [add_block]; exact hn295_3) | (show (Addr.add _ _).block ≠ _; rw [add_block]; exact hn295_3) | exact hn295_3) (.string ((rd_T33 l0 x7_1).f3))).trans hx295_7
           replace hx295_0 := (cell_far (p := ⟨gb294, 4, none⟩) (by first | (rw [add_block]; exact hn295_4) | (show (Addr.add _ _).block ≠ _; rw [add_block]; exact hn295_4) | exact hn295_4) (.slice A293_4 ((rd_T33 l0 x7_1).f4).length c293_4)).trans hx295_0
           replace hx295_1 := (cell_far (p := ⟨gb294, 4, none⟩) (by first | (rw [add_block]; exact hn295_4) | (show (Addr.add _ _).block ≠ _; rw [add_block]; exact hn295_4) | exact hn295_4) (.slice A293_4 ((rd_T33 l0 x7_1).f4).length c293_4)).trans hx295_1
           replace hx295_2 := (cell_far (p := ⟨gb294, 4, none⟩) (by first | (rw [add_block]; exact hn295_4) | (show (Addr.add _ _).block ≠ _; rw [add_block]; exact hn295_4) | exact hn295_4) (.slice A293_4 ((rd_T33 l0 x7_1).f4).length c293_4)).trans hx295_2
           replace hx295_3 := (cell_far (p := ⟨gb294, 4, none⟩) (by first | (rw [add_block]; exact hn295_4) | (show (Addr.add _ _).block ≠ _; rw [add_block]; exact hn295_4) | exact hn295_4) (.slice A293_4 ((rd_T33 l0 x7_1).f4).length c293_4)).trans hx295_3
           replace hx295_4 := (cell_far (p := ⟨gb294, 4, none⟩) (by first | (rw [add_block]; exact hn295_4) | (show (Addr.add _ _).block ≠ _; rw [add_block]; exact hn295_4) | exact hn295_4) (.slice A293_4 ((rd_T33 l0 x7_1).f4).length c293_4)).trans hx295_4
           replace hx295_5 := (cell_far (p := ⟨gb294, 4, none⟩) (by first | (rw [add_block]; exact hn295_4) | (show (Addr.add _ _).block ≠ _; rw [add_block]; exact hn295_4) | exact hn295_4) (.slice A293_4 ((rd_T33 l0 x7_1).f4).length c293_4)).trans hx295_5
           replace hx295_6 := (cell_far (p := ⟨gb294, 4, none⟩) (by first | (rw [add_block]; exact hn295_4) | (show (Addr.add _ _).block ≠ _; rw [add_block]; exact hn295_4) | exact hn295_4) (.slice A293_4 ((rd_T33 l0 x7_1).f4).length c293_4)).trans hx295_6
           replace hx295_7 := (cell_far (p := ⟨gb294, 4, none⟩) (by first | (rw [add_block]; exact hn295_4) | (show (Addr.add _ _).block ≠ _; rw [add_block]; exact hn295_4) | exact hn295_4) (.slice A293_4 ((rd_T33 l0 x7_1).f4).length c293_4)).trans hx295_7
           replace hx295_0 := (cell_far (p := ⟨gb294, 5, none⟩) (by first | (rw [add_block]; exact hn295_5) | (show (Addr.add _ _).block ≠ _; rw [add_block]; exact hn295_5) | exact hn295_5) (.slice A293_5 ((rd_T33 l0 x7_1).f5).length c293_5)).trans hx295_0
           replace hx295_1 := (cell_far (p := ⟨gb294, 5, none⟩) (by first | (rw [add_block]; exact hn295_5) | (show (Addr.add _ _).block ≠ _; rw [add_block]; exact hn295_5) | exact hn295_5) (.slice A293_5 ((rd_T33 l0 x7_1).f5).length c293_5)).trans hx295_1
           replace hx295_2 := (cell_far (p := ⟨gb294, 5, none⟩) (by first | (rw [add_block]; exact hn295_5) | (show (Addr.add _ _).block ≠ _; rw [add_block]; exact hn295_5) | exact hn295_5) (.slice A293_5 ((rd_T33 l0 x7_1).f5).length c293_5)).trans hx295_2
           replace hx295_3 := (cell_far (p := ⟨gb294, 5, none⟩) (by first | (rw [add_block]; exact hn295_5) | (show (Addr.add _ _).block ≠ _; rw [add_block]; exact hn295_5) | exact hn295_5) (.slice A293_5 ((rd_T33 l0 x7_1).f5).length c293_5)).trans hx295_3
           replace hx295_4 := (cell_far (p := ⟨gb294, 5, none⟩) (by first | (rw [add_block]; exact hn295_5) | (show (Addr.add _ _).block ≠ _; rw [add_block]; exact hn295_5) | exact hn295_5) (.slice A293_5 ((rd_T33 l0 x7_1).f5).length c293_5)).trans hx295_4
           replace hx295_5 := (cell_far (p := ⟨gb294, 5, none⟩) (by first | (rw [add_block]; exact hn295_5) | (show (Addr.add _ _).block ≠ _; rw [add_block]; exact hn295_5) | exact hn295_5) (.slice A293_5 ((rd_T33 l0 x7_1).f5).length c293_5)).trans hx295_5
           replace hx295_6 := (cell_far (p := ⟨gb294, 5, none⟩) (by first | (rw [add_block]; exact hn295_5) | (show (Addr.add _ _).block ≠ _; rw [add_block]; exact hn295_5) | exact hn295_5) (.slice A293_5 ((rd_T33 l0 x7_1).f5).length c293_5)).trans hx295_6
           replace hx295_7 := (cell_far (p := ⟨gb294, 5, none⟩) (by first | (rw [add_block]; exact hn295_5) | (show (Addr.add _ _).block ≠ _; rw [add_block]; exact hn295_5) | exact hn295_5) (.slice A293_5 ((rd_T33 l0 x7_1).f5).length c293_5)).trans hx295_7
           replace hx295_0 := (cell_far (p := ⟨gb294, 6, none⟩) (by first | (rw [add_block]; exact hn295_6) | (show (Addr.add _ _).block ≠ _; rw [add_block]; exact hn295_6) | exact hn295_6) (.slice A293_6 ((rd_T33 l0 x7_1).f6).length c293_6)).trans hx295_0
           replace hx295_1 := (cell_far (p := ⟨gb294, 6, none⟩) (by first | (rw [add_block]; exact hn295_6) | (show (Addr.add _ _).block ≠ _; rw [add_block]; exact hn295_6) | exact hn295_6) (.slice A293_6 ((rd_T33 l0 x7_1).f6).length c293_6)).trans hx295_1
           replace hx295_2 := (cell_far (p := ⟨gb294, 6, none⟩) (by first | (rw [add_block]; exact hn295_6) | (show (Addr.add _ _).block ≠ _; rw [add_block]; exact hn295_6) | exact hn295_6) (.slice A293_6 ((rd_T33 l0 x7_1).f6).length c293_6)).trans hx295_2
           replace hx295_3 := (cell_far (p := ⟨gb294, 6, none⟩) (by first | (rw [add_block]; exact hn295_6) | (show (Addr.add _ _).block ≠ _; rw [add_block]; exact hn295_6) | exact hn295_6) (.slice A293_6 ((rd_T33 l0 x7_1).f6).length c293_6)).trans hx295_3
           replace hx295_4 := (cell_far (p := ⟨gb294, 6, none⟩) (by first | (rw [add_block]; exact hn295_6) | (show (Addr.add _ _).block ≠ _; rw [add_block]; exact hn295_6) | exact hn295_6) (.slice A293_6 ((rd_T33 l0 x7_1).f6).length c293_6)).trans hx295_4
           replace hx295_5 := (cell_far (p := ⟨gb294, 6, none⟩) (by first | (rw [add_block]; exact hn295_6) | (show (Addr.add _ _).block ≠ _; rw [add_block]; exact hn295_6) | exact hn295_6) (.slice A293_6 ((rd_T33 l0 x7_1).f6).length c293_6)).trans hx295_5
           replace hx295_6 := (cell_far (p := ⟨gb294, 6, none⟩) (by first | (rw [add_block]; exact hn295_6) | (show (Addr.add _ _).block ≠ _; rw [add_block]; exact hn295_6) | exact hn295_6) (.slice A293_6 ((rd_T33 l0 x7_1).f6).length c293_6)).trans hx295_6
           replace hx295_7 := (cell_far (p := ⟨gb294, 6, none⟩) (by first | (rw [add_block]; exact hn295_6) | (show (Addr.add _ _).block ≠ _; rw [add_block]; exact hn295_6) | exact hn295_6) (.slice A293_6 ((rd_T33 l0 x7_1).f6).length c293_6)).trans hx295_7
           replace hx295_0 := (cell_far (p := ⟨gb294, 7, none⟩) (by first | (rw [add_block]; exact hn295_7) | (show (Addr.add _ _).block ≠ _; rw [add_block]; exact hn295_7) | exact hn295_7) (.string ((rd_T33 l0 x7_1).f7))).trans hx295_0
           replace hx295_1 := (cell_far (p := ⟨gb294, 7, none⟩) (by first | (rw [add_block]; exact hn295_7) | (show (Addr.add _ _).block ≠ _; rw [add_block]; exact hn295_7) | exact hn295_7) (.string ((rd_T33 l0 x7_1).f7))).trans hx295_1
           replace hx295_2 := (cell_far (p := ⟨gb294, 7, none⟩) (by first | (rw [add_block]; exact hn295_7) | (show (Addr.add _ _).block ≠ _; rw [add_block]; exact hn295_7) | exact hn295_7) (.string ((rd_T33 l0 x7_1).f7))).trans hx295_2
           replace hx295_3 := (cell_far (p := ⟨gb294, 7, none⟩) (by first | (rw [add_block]; exact hn295_7) | (show (Addr.add _ _).block ≠ _; rw [add_block]; exact hn295_7) | exact hn295_7) (.string ((rd_T33 l0 x7_1).f7))).trans hx295_3
           replace hx295_4 := (cell_far (p := ⟨gb294, 7, none⟩) (by first | (rw [add_block]; exact hn295_7) | (show (Addr.add _ _).block ≠ _; rw [add_block]; exact hn295_7) | exact hn295_7) (.string ((rd_T33 l0 x7_1).f7))).trans hx295_4
           replace hx295_5 := (cell_far (p := ⟨gb294, 7, none⟩) (by first | (rw [add_block]; exact hn295_7) | (show (Addr.add _ _).block ≠ _; rw [add_block]; exact hn295_7) | exact hn295_7) (.string ((rd_T33 l0 x7_1).f7))).trans hx295_5
           replace hx295_6 := (cell_far (p := ⟨gb294, 7, none⟩) (by first | (rw [add_block]; exact hn295_7) | (show (Addr.add _ _).block ≠ _; rw [add_block]; exact hn295_7) | exact hn295_7) (.string ((rd_T33 l0 x7_1).f7))).trans hx295_6
           replace hx295_7 := (cell_far (p := ⟨gb294, 7, none⟩) (by first | (rw [add_block]; exact hn295_7) | (show (Addr.add _ _).block ≠ _; rw [add_block]; exact hn295_7) | exact hn295_7) (.string ((rd_T33 l0 x7_1).f7))).trans hx295_7
           clear hn295_0
           clear hn295_1
           clear hn295_2
           clear hn295_3
           clear hn295_4
           clear hn295_5
           clear hn295_6
           clear hn295_7
           replace p295 := eq_true p295
           replace q295 := eq_true q295
           go_wp2
           go_roundg k1
           case measure => have := HK1.out; omega
           case rel => exact ⟨(wrap64 (x7_1 + 1)), rG, H', ⟨by have := HK1.out; omega⟩, ⟨by repeat (first|(with_reducible first|exact HB.out|apply zA|apply zN|apply zD | refine below_set ?_ GE294.out) | exact HB.out)⟩⟩
         ·rw [if_neg c11] at H
          exact absurd H (by simp)
        ·rw [if_neg c10] at H
         exact absurd H (by simp)
       ·rw [if_neg c8] at H
        have c8b0 : (((rd_T33 l0 x7_1).f0) == 2) = false := beq_eq_false_iff_ne.mpr c8
        have c8b1 : (((rd_T33 l0 x7_1).f0) != 2) = true := bne_iff_ne.mpr c8
        have H' := Aside0.mk H
        clear H
        obtain ⟨hcz15_0, hcz15_1, hcz15_2, hcz15_3, hcz15_4, hcz15_5, hcz15_6, hcz15_7⟩ := bc8 BK294.out
        obtain ⟨hfz15_0, hfz15_1, hfz15_2, hfz15_3, hfz15_4, hfz15_5, hfz15_6, hfz15_7⟩ := bf8 BK294.out
        go_wp2
        go_roundg k1
        case measure => have := HK1.out; omega
        case rel => exact ⟨(wrap64 (x7_1 + 1)), rG, H', ⟨by have := HK1.out; omega⟩, ⟨by repeat (first|(with_reducible first|exact HB.out|apply zA|apply zN|apply zD | refine below_set ?_ GE294.out) | exact HB.out)⟩⟩
      ·rw [if_neg c7] at H
       have c7b0 : decide (0 < x7_1) = false := decide_eq_false c7
       clear c7
       have H' := Aside0.mk H
       clear H
       go_wp2
       go_roundg k1
       case measure => have := HK1.out; omega
       case rel => exact ⟨(wrap64 (x7_1 + 1)), rG, H', ⟨by have := HK1.out; omega⟩, ⟨by repeat (first|(with_reducible first|exact HB.out|apply zA|apply zN|apply zD | refine below_set ?_ GE294.out) | exact HB.out)⟩⟩
     ·rw [if_neg c4] at H
      exact absurd H (by simp)
    ·rw [if_neg c3] at H
     exact absurd H (by simp)
   ·rw [if_neg c2] at H
    have c2b0 : decide (x7_1 < (l0.length : Int)) = false := decide_eq_false c2
    clear c2
    obtain rfl := Option.some.inj H
    go_wp2
    go_ret
    exact ⟨rE, by repeat (first|(with_reducible first|exact HB.out|apply zA|apply zN|apply zD) | exact HB.out)⟩

/-! ### impl_Node_94: function 94 -/
/-- A node as a value; its rows are read in w. -/
def impl_Node_94.NV (w : World) (x : S33) (v : Value) : Prop := ∃ (A4 : Option Addr) (c4 : Nat) (A5 : Option Addr) (c5 : Nat) (A6 : Option Addr) (c6 : Nat), v = .agg #[.int .i64 x.f0, .string x.f1, .string x.f2, .string x.f3, .slice A4 x.f4.length c4, .slice A5 x.f5.length c5, .slice A6 x.f6.length c6, .string x.f7] ∧
  x.f4.length ≤ c4 ∧ Kd.C k84 w A4 x.f4.length x.f4 ∧ x.f5.length ≤ c5 ∧ Kd.C k72 w A5 x.f5.length x.f5 ∧ x.f6.length ≤ c6 ∧ Kd.C k33 w A6 x.f6.length x.f6
theorem impl_Node_94.rd_in (l0 : List S33) (i : Nat) (h : i < l0.length) : rd_T33 l0 (i : Int) = l0[i] := by simp [rd_T33, List.getD_eq_getElem?_getD, List.getElem?_eq_getElem h]
def impl_Node_94.idx (p : S33 → Option Bool) : Nat → List S33 → Option Int
  | _, [] => some (-1)
  | i, x :: xs => (p x).bind fun b => if b = true then some (i : Int) else impl_Node_94.idx p (i + 1) xs
set_option maxHeartbeats 4000000 in
set_option maxRecDepth 100000 in
theorem impl_Node_94.calls (p : S33 → Option Bool) (g : Nat) (lb : Array Value) (eg : ∀ args w, (callFunc g args).run Tryd.prog w = .ok (.enter g args) w) (A0 : Option Addr) (c0 : Nat) (l0 : List S33) (r : Int) (w : World)
    (hp : ∀ (W : World) (x : S33) (v : Value) (b : Bool), x ∈ l0 → p x = some b → impl_Node_94.NV W x v → Below w.heap.size w W → Calls Tryd.prog g (#[v] ++ lb) W fun e w' => e = .returned (.bool b) ∧ Below W.heap.size W w')
    (hr0 : Kd.C k33 w A0 l0.length l0) (h : impl_Node_94.idx p 0 l0 = some r) :
    Calls Tryd.prog 94 #[.slice A0 l0.length c0, .func (.func g) #[] lb] w fun e w' => e = .returned (.int .i64 r) ∧ Below w.heap.size w w' := by
  have hl0 : l0.length ≤ 9223372036854775807 := hr0.2.1
  have HR0 := Aside0.mk hr0
  have HP := Aside0.mk hp
  have H := Aside0.mk h
  clear hr0 hp h
  have hu := Tryd.underlying33
  go_enter Tryd.func94, Tryd.ntmps94
  go_wp2
  go_loopg [5, 8] l0.length (fun gg _ s8 wr => ∃ kk : Nat, kk ≤ l0.length ∧ l0.length - kk ≤ gg ∧ s8 = .int .i64 kk ∧ Aside0 (Below w.heap.size w wr) ∧ Aside0 (impl_Node_94.idx p kk (l0.drop kk) = some r))
  case atStart => exact ⟨0, Nat.zero_le _, by omega, rfl, ⟨Below.refl _ w⟩, ⟨by simpa using H.out⟩⟩
  case round =>
    obtain ⟨kk, hkk, hg, rfl, BW, A⟩ := hrel
    by_cases hlt : kk < l0.length
    · have hltz : (kk : Int) < (l0.length : Int) := by omega
      have hA := A.out
      rw [List.drop_eq_getElem_cons hlt] at hA
      simp only [impl_Node_94.idx] at hA
      obtain ⟨b, hb, hA⟩ := Option.bind_eq_some_iff.1 hA
      obtain ⟨ad, A4, c4, A5, c5, A6, c6, ead, z0, z1, z2, z3, z4, z5, z6, z7, q4, r4, q5, r5, q6, r6⟩ := at_T33 (Kd.C_below HR0.out BW.out) (kk : Int) (by omega) (by omega)
      have hcall := HP.out wr (rd_T33 l0 (kk : Int)) _ b (by rw [impl_Node_94.rd_in l0 kk hlt]; exact List.getElem_mem hlt) (by rw [impl_Node_94.rd_in l0 kk hlt]; exact hb) ⟨A4, c4, A5, c5, A6, c6, rfl, q4, r4, q5, r5, q6, r6⟩ BW.out
      simp only [Int.toNat_natCast] at z0 z1 z2 z3 z4 z5 z6 z7
      cases ead
      clear A hb q4 r4 q5 r5 q6 r6
      have HA := Aside0.mk hA
      clear hA
      generalize hd : rd_T33 l0 (kk : Int) = d at hcall z0 z1 z2 z3 z4 z5 z6 z7
      clear hd
      cases b with
      | true =>
        go_wp2_with (go_at_fn g; refine hcall.mono ?_; rintro e w' ⟨rfl, hb'⟩)
        go_ret
        refine ⟨?_, BW.out.trans (hb'.mono BW.out.size)⟩
        have := HA.out
        simp only [if_true] at this
        cases this
        rfl
      | false =>
        go_wp2_with (go_at_fn g; refine hcall.mono ?_; rintro e w' ⟨rfl, hb'⟩)
        go_roundg (l0.length - (kk + 1))
        case measure => omega
        case rel => exact ⟨kk + 1, by omega, by omega, by go_num, ⟨BW.out.trans (hb'.mono BW.out.size)⟩, ⟨by simpa using HA.out⟩⟩
    · have hltz : ¬ (kk : Int) < (l0.length : Int) := by omega
      have : kk = l0.length := by omega
      subst this
      go_wp2
      go_ret
      refine ⟨?_, BW.out⟩
      have hA := A.out
      rw [List.drop_length] at hA
      cases hA
      rfl

/-! ### impl_Node_60: function 60 -/
def impl_Node_60.any (p : S33 → Option Bool) : List S33 → Option Bool
  | [] => some false
  | x :: xs => (p x).bind fun b => if b = true then some true else impl_Node_60.any p xs
theorem impl_Node_60.any_idx (p : S33 → Option Bool) (b : Bool) : ∀ (l : List S33) (i : Nat), impl_Node_60.any p l = some b → ∃ r, impl_Node_94.idx p i l = some r ∧ decide (0 ≤ r) = b := by
  intro l
  induction l with
  | nil => intro i h; cases h; exact ⟨-1, rfl, rfl⟩
  | cons x l ih =>
    intro i h
    simp only [impl_Node_60.any] at h
    obtain ⟨q, hq, h⟩ := Option.bind_eq_some_iff.1 h
    simp only [impl_Node_94.idx]
    cases q with
    | true =>
      rw [if_pos rfl] at h
      cases h
      exact ⟨(i : Int), by rw [hq]; rfl, by simp⟩
    | false =>
      obtain ⟨r, h1, h2⟩ := ih (i + 1) (by simpa using h)
      exact ⟨r, by rw [hq]; simpa using h1, h2⟩
theorem impl_Node_60.mono (p q : S33 → Option Bool) (h : ∀ x, LeO (p x) (q x)) : ∀ l, LeO (impl_Node_60.any p l) (impl_Node_60.any q l)
  | [] => LeO.refl _
  | x :: xs => by
    simp only [impl_Node_60.any]
    refine LeO.bind (h x) (fun _ => LeO.ite (LeO.refl _) (impl_Node_60.mono p q h xs))
set_option maxHeartbeats 1000000 in
theorem impl_Node_60.calls (p : S33 → Option Bool) (g : Nat) (lb : Array Value) (eg : ∀ args w, (callFunc g args).run Tryd.prog w = .ok (.enter g args) w) (A0 : Option Addr) (c0 : Nat) (l0 : List S33) (b : Bool) (w : World)
    (hp : ∀ (W : World) (x : S33) (v : Value) (b : Bool), x ∈ l0 → p x = some b → impl_Node_94.NV W x v → Below w.heap.size w W → Calls Tryd.prog g (#[v] ++ lb) W fun e w' => e = .returned (.bool b) ∧ Below W.heap.size W w')
    (hr0 : Kd.C k33 w A0 l0.length l0) (h : impl_Node_60.any p l0 = some b) :
    Calls Tryd.prog 60 #[.slice A0 l0.length c0, .func (.func g) #[] lb] w fun e w' => e = .returned (.bool b) ∧ Below w.heap.size w w' := by
  obtain ⟨i, hi, hd⟩ := impl_Node_60.any_idx p b l0 0 h
  have h := impl_Node_94.calls p g lb eg A0 c0 l0 i w hp hr0 hi
  have HI := Aside0.mk hd
  clear hp hr0 hi hd
  go_enter Tryd.func60, Tryd.ntmps60
  go_wp2_with (go_at_call 94; refine h.mono ?_; rintro e w' ⟨rfl, hb'⟩)
  go_ret
  exact ⟨by rw [← HI.out]; rfl, hb'⟩

/-! ### impl_kidsOk: function 31 -/
def impl_kidsOk.and2 (x y : Option Bool) : Option Bool := x.bind fun t => if t = true then y else some false
theorem impl_kidsOk.and2_elim {x y : Option Bool} {r : Bool} (h : impl_kidsOk.and2 x y = some r) : ∃ t, x = some t ∧ (t = true → y = some r) ∧ (t = false → r = false) := by
  obtain ⟨t, ht, h⟩ := Option.bind_eq_some_iff.1 h
  refine ⟨t, ht, ?_, ?_⟩ <;> rintro rfl <;> simp at h <;> simp [h]
theorem impl_kidsOk.and2_mono {x y x' y' : Option Bool} (hx : LeO x x') (hy : LeO y y') : LeO (impl_kidsOk.and2 x y) (impl_kidsOk.and2 x' y') := LeO.bind hx (fun _ => LeO.ite hy (LeO.refl _))
def impl_kidsOk.kids (G : Int → ByteArray → ByteArray → ByteArray → List S84 → List S72 → List S33 → ByteArray → Int → Option Bool) (k : Nat) (l : List S33) (d : Int) : Option Bool :=
  impl_kidsOk.and2 (impl_noTwoTexts.f k l) ((impl_Node_60.any (fun x => (G x.f0 x.f1 x.f2 x.f3 x.f4 x.f5 x.f6 x.f7 d).map not) l).map not)
def impl_kidsOk.part : Nat → Int → ByteArray → ByteArray → ByteArray → List S84 → List S72 → List S33 → ByteArray → Int → Option Bool
  | 0, _, _, _, _, _, _, _, _, _ => none
  | k + 1, a0_0, a0_1, a0_2, a0_3, l0_4, l0_5, l0_6, a0_7, a1 =>
    if a0_0 = 1 then (if 7 ≤ a1 then some false else if a0_7.toList = [] then impl_kidsOk.and2 (impl_preOk.f k a0_1) (impl_kidsOk.and2 (impl_uriOk.f k a0_3 a0_1) (impl_kidsOk.and2 (impl_PlainOk.f k a0_2) (impl_kidsOk.and2 (impl_DeclsOk.f k l0_4) (impl_kidsOk.and2 (impl_attrsOk.f k l0_5) (impl_kidsOk.kids (impl_kidsOk.part k) k l0_6 (wrap64 (a1 + 1))))))) else some false)
    else impl_leafOk.f k a0_0 a0_1 a0_2 a0_3 l0_4 l0_5 l0_6 a0_7
theorem impl_kidsOk.kids_mono {G G' : Int → ByteArray → ByteArray → ByteArray → List S84 → List S72 → List S33 → ByteArray → Int → Option Bool} (hG : ∀ a b c d e f g h i, LeO (G a b c d e f g h i) (G' a b c d e f g h i)) (k : Nat) (l : List S33) (d : Int) : LeO (impl_kidsOk.kids G k l d) (impl_kidsOk.kids G' (k + 1) l d) :=
  impl_kidsOk.and2_mono (impl_noTwoTexts.mono l k) (LeO.map _ (impl_Node_60.mono _ _ (fun x => LeO.map _ (hG x.f0 x.f1 x.f2 x.f3 x.f4 x.f5 x.f6 x.f7 d)) _))
theorem impl_kidsOk.part_mono : ∀ k a0_0 a0_1 a0_2 a0_3 l0_4 l0_5 l0_6 a0_7 a1, LeO (impl_kidsOk.part k a0_0 a0_1 a0_2 a0_3 l0_4 l0_5 l0_6 a0_7 a1) (impl_kidsOk.part (k + 1) a0_0 a0_1 a0_2 a0_3 l0_4 l0_5 l0_6 a0_7 a1)
  | 0, _, _, _, _, _, _, _, _, _ => fun r h => by simp [impl_kidsOk.part] at h
  | k + 1, a0_0, a0_1, a0_2, a0_3, l0_4, l0_5, l0_6, a0_7, a1 => by
    simp only [impl_kidsOk.part]
    exact LeO.ite (LeO.ite (LeO.refl _) (LeO.ite (impl_kidsOk.and2_mono (impl_preOk.mono _ _) (impl_kidsOk.and2_mono (impl_uriOk.mono _ _ _) (impl_kidsOk.and2_mono (impl_PlainOk.mono _ _) (impl_kidsOk.and2_mono (impl_DeclsOk.mono _ _) (impl_kidsOk.and2_mono (impl_attrsOk.mono _ _) (impl_kidsOk.kids_mono (impl_kidsOk.part_mono k) k l0_6 _)))))) (LeO.refl _))) (impl_leafOk.mono _ _ _ _ _ _ _ _ _)
set_option maxRecDepth 100000 in
set_option maxHeartbeats 1000000 in
theorem impl_kidsOk.lit (b : Bool) (x : S33) (A4 A5 A6 : Option Addr) (c4 c5 c6 : Nat) (d : Int) (B : Nat) (W : World) (hc : W.cell? ⟨B, 0, none⟩ = some (.int .i64 d))
    (hC : ∀ W1, Below W.heap.size W W1 → Calls Tryd.prog 29 #[.agg #[.int .i64 x.f0, .string x.f1, .string x.f2, .string x.f3, .slice A4 x.f4.length c4, .slice A5 x.f5.length c5, .slice A6 x.f6.length c6, .string x.f7], .int .i64 d] W1 fun e w' => e = .returned (.bool b) ∧ Below W1.heap.size W1 w') :
    Calls Tryd.prog 61 #[.agg #[.int .i64 x.f0, .string x.f1, .string x.f2, .string x.f3, .slice A4 x.f4.length c4, .slice A5 x.f5.length c5, .slice A6 x.f6.length c6, .string x.f7], .pointer (some ⟨B, 0, none⟩)] W
      fun e w' => e = .returned (.bool (!b)) ∧ Below W.heap.size W w' := by
  have hu := Tryd.underlying33
  have hlt : B < W.heap.size := World.block_lt_of_cell? W _ hc
  have HC := Aside0.mk hC
  clear hC
  generalize x.f4.length = n4 at HC ⊢
  generalize x.f5.length = n5 at HC ⊢
  generalize x.f6.length = n6 at HC ⊢
  go_enter Tryd.func61, Tryd.ntmps61
  go_wp2_with (go_at_call 29; refine (HC.out _ (below_alloc (Below.refl _ _) _)).mono ?_; rintro e w' ⟨rfl, hb⟩)
  go_ret
  exact ⟨rfl, below_then (below_alloc (Below.refl _ _) _) (by simp) hb⟩
set_option maxRecDepth 100000 in
set_option maxHeartbeats 4000000 in
theorem impl_kidsOk.callsF (G : Int → ByteArray → ByteArray → ByteArray → List S84 → List S72 → List S33 → ByteArray → Int → Option Bool)
    (hG : ∀ (a0_0 : Int) (a0_1 a0_2 a0_3 : ByteArray) (A0_4 : Option Addr) (c0_4 : Nat) (l0_4 : List S84) (A0_5 : Option Addr) (c0_5 : Nat) (l0_5 : List S72) (A0_6 : Option Addr) (c0_6 : Nat) (l0_6 : List S33) (a0_7 : ByteArray) (a1 : Int) (r : Bool) (w : World) (hr0_4 : Kd.C k84 w A0_4 l0_4.length l0_4) (hc0_4 : l0_4.length ≤ c0_4) (hr0_5 : Kd.C k72 w A0_5 l0_5.length l0_5) (hc0_5 : l0_5.length ≤ c0_5) (hr0_6 : Kd.C k33 w A0_6 l0_6.length l0_6) (hc0_6 : l0_6.length ≤ c0_6) (hTab : Tabs w) (h : G a0_0 a0_1 a0_2 a0_3 l0_4 l0_5 l0_6 a0_7 a1 = some r),
      Calls Tryd.prog 29 #[.agg #[.int .i64 a0_0, .string a0_1, .string a0_2, .string a0_3, .slice A0_4 l0_4.length c0_4, .slice A0_5 l0_5.length c0_5, .slice A0_6 l0_6.length c0_6, .string a0_7], .int .i64 a1] w fun e w' => e = .returned (.bool r) ∧ Below w.heap.size w w')
    (k : Nat) (a0_0 : Int) (a0_1 a0_2 a0_3 : ByteArray) (A0_4 : Option Addr) (n0_4 c0_4 : Nat) (A0_5 : Option Addr) (n0_5 c0_5 : Nat) (A0_6 : Option Addr) (c0_6 : Nat) (l0_6 : List S33) (a0_7 : ByteArray) (a1 : Int) (r : Bool) (w : World) (hr0_6 : Kd.C k33 w A0_6 l0_6.length l0_6) (hc0_6 : l0_6.length ≤ c0_6) (hTab : Tabs w) (h : impl_kidsOk.kids G k l0_6 a1 = some r) :
    Calls Tryd.prog 31 #[.agg #[.int .i64 a0_0, .string a0_1, .string a0_2, .string a0_3, .slice A0_4 n0_4 c0_4, .slice A0_5 n0_5 c0_5, .slice A0_6 l0_6.length c0_6, .string a0_7], .int .i64 a1] w fun e w' => e = .returned (.bool r) ∧ Below w.heap.size w w' := by
  obtain ⟨t, ht, hT, hFl⟩ := impl_kidsOk.and2_elim h
  have hA := fun (W : World) (hW : Below w.heap.size w W) => impl_noTwoTexts.calls k A0_6 c0_6 l0_6 t W (Kd.C_below hr0_6 hW) hc0_6 ht
  have hu := Tryd.underlying33
  have HA := Aside0.mk hA
  cases t with
  | false =>
    have hr := hFl rfl
    subst hr
    clear hT hFl hA ht hr0_6 hc0_6 hG h
    go_enter Tryd.func31, Tryd.ntmps31
    go_wp2_with (go_at_call 59; refine (HA.out _ ?a1).mono ?_; (case a1 => exact below_alloc (below_alloc (Below.refl _ _) _) _); rintro e w' ⟨rfl, hb⟩; have hB := below_then (below_alloc (below_alloc (Below.refl w.heap.size w) _) _) (by simp; omega) hb)
    go_ret
    exact ⟨rfl, hB⟩
  | true =>
    obtain ⟨q, hq, rfl⟩ := Option.map_eq_some_iff.1 (hT rfl)
    have hN := fun (W : World) (B : Nat) (hW : Below w.heap.size w W) (hc : W.cell? ⟨B, 0, none⟩ = some (.int .i64 a1)) =>
      impl_Node_60.calls (fun x => (G x.f0 x.f1 x.f2 x.f3 x.f4 x.f5 x.f6 x.f7 a1).map not) 61 #[.pointer (some ⟨B, 0, none⟩)] (enters_of Tryd.func61 (by kernel_rfl) rfl) A0_6 c0_6 l0_6 q W
        (fun W2 x v b hx hp hv hb2 => by
          obtain ⟨b', hp', rfl⟩ := Option.map_eq_some_iff.1 hp
          obtain ⟨E4, e4, E5, e5, E6, e6, rfl, q4, r4, q5, r5, q6, r6⟩ := hv
          exact impl_kidsOk.lit b' x _ _ _ _ _ _ a1 B W2 (pw_cell_below hb2 hc) (fun W3 hW3 => hG _ _ _ _ _ _ _ _ _ _ _ _ _ _ a1 b' W3 (Kd.C_below r4 hW3) q4 (Kd.C_below r5 hW3) q5 (Kd.C_below r6 hW3) q6 (hTab.below (hW.trans (((hb2.mono hW.size)).trans (hW3.mono (Nat.le_trans hW.size hb2.size))))) hp')) (Kd.C_below hr0_6 hW) hq
    have HN := Aside0.mk hN
    clear hT hFl hA hN ht hr0_6 hc0_6 hG h hq
    go_enter Tryd.func31, Tryd.ntmps31
    go_wp2_with (first | (go_at_call 59; refine (HA.out _ ?a1).mono ?_; (case a1 => exact below_alloc (below_alloc (Below.refl _ _) _) _); rintro e w' ⟨rfl, hb⟩; have hB := below_then (below_alloc (below_alloc (Below.refl w.heap.size w) _) _) (by simp; omega) hb; have HB := Aside0.mk hB; have hk0 := pw_cell_below hb (show World.cell? ((w.alloc (.cells #[.int .i64 a0_0, .string a0_1, .string a0_2, .string a0_3, .slice A0_4 n0_4 c0_4, .slice A0_5 n0_5 c0_5, .slice A0_6 l0_6.length c0_6, .string a0_7] 33)).alloc (.cells #[.int .i64 a1] 3)) ⟨w.heap.size, 6, none⟩ = some (.slice A0_6 l0_6.length c0_6) from by rw [World.cell?_alloc_past _ _ _ (by simp), World.cell?_alloc_at _ _ _ _ rfl]; rfl); have hk1 := pw_cell_below hb (show World.cell? ((w.alloc (.cells #[.int .i64 a0_0, .string a0_1, .string a0_2, .string a0_3, .slice A0_4 n0_4 c0_4, .slice A0_5 n0_5 c0_5, .slice A0_6 l0_6.length c0_6, .string a0_7] 33)).alloc (.cells #[.int .i64 a1] 3)) ⟨w.heap.size + 1, 0, none⟩ = some (.int .i64 a1) from by rw [World.cell?_alloc_at _ _ _ _ (by simp)]; rfl)) | (go_at_call 60; refine (HN.out _ _ HB.out hk1).mono ?_; rintro e w2 ⟨rfl, hb2⟩))
    go_ret
    exact ⟨rfl, HB.out.trans (hb2.mono HB.out.size)⟩
set_option maxRecDepth 100000 in
set_option maxHeartbeats 4000000 in
theorem impl_kidsOk.part_calls (k : Nat) : ∀ (a0_0 : Int) (a0_1 a0_2 a0_3 : ByteArray) (A0_4 : Option Addr) (c0_4 : Nat) (l0_4 : List S84) (A0_5 : Option Addr) (c0_5 : Nat) (l0_5 : List S72) (A0_6 : Option Addr) (c0_6 : Nat) (l0_6 : List S33) (a0_7 : ByteArray) (a1 : Int) (r : Bool) (w : World) (hr0_4 : Kd.C k84 w A0_4 l0_4.length l0_4) (hc0_4 : l0_4.length ≤ c0_4) (hr0_5 : Kd.C k72 w A0_5 l0_5.length l0_5) (hc0_5 : l0_5.length ≤ c0_5) (hr0_6 : Kd.C k33 w A0_6 l0_6.length l0_6) (hc0_6 : l0_6.length ≤ c0_6) (hTab : Tabs w) (h : impl_kidsOk.part k a0_0 a0_1 a0_2 a0_3 l0_4 l0_5 l0_6 a0_7 a1 = some r),
    Calls Tryd.prog 29 #[.agg #[.int .i64 a0_0, .string a0_1, .string a0_2, .string a0_3, .slice A0_4 l0_4.length c0_4, .slice A0_5 l0_5.length c0_5, .slice A0_6 l0_6.length c0_6, .string a0_7], .int .i64 a1] w fun e w' => e = .returned (.bool r) ∧ Below w.heap.size w w' := by
  induction k with
  | zero => intro a0_0 a0_1 a0_2 a0_3 A0_4 c0_4 l0_4 A0_5 c0_5 l0_5 A0_6 c0_6 l0_6 a0_7 a1 r w hr0_4 hc0_4 hr0_5 hc0_5 hr0_6 hc0_6 hTab h; exact absurd h (by simp [impl_kidsOk.part])
  | succ k ih =>
  intro a0_0 a0_1 a0_2 a0_3 A0_4 c0_4 l0_4 A0_5 c0_5 l0_5 A0_6 c0_6 l0_6 a0_7 a1 r w hr0_4 hc0_4 hr0_5 hc0_5 hr0_6 hc0_6 hTab h
  simp only [impl_kidsOk.part] at h
  have hu := Tryd.underlying33
  have HR := Aside0.mk (And.intro hr0_4 (And.intro hr0_5 hr0_6))
  have HQ := Aside0.mk (And.intro hc0_4 (And.intro hc0_5 hc0_6))
  have HT := Aside0.mk hTab
  have IH := Aside0.mk (impl_kidsOk.callsF (impl_kidsOk.part k) ih k)
  clear hr0_4 hc0_4 hr0_5 hc0_5 hr0_6 hc0_6 hTab ih
  generalize hn4 : l0_4.length = n4 at HQ ⊢
  generalize hn5 : l0_5.length = n5 at HQ ⊢
  have HN := Aside0.mk (And.intro hn4 hn5)
  clear hn4 hn5
  by_cases c1 : a0_0 = 1
  · rw [if_pos c1] at h
    subst c1
    by_cases c2 : 7 ≤ a1
    · rw [if_pos c2] at h
      cases h
      have c2b := decide_eq_true c2
      clear HR HQ HT IH HN
      go_enter Tryd.func29, Tryd.ntmps29
      go_wp2
      go_ret
      exact ⟨rfl, below_alloc (Below.refl _ _) _⟩
    · rw [if_neg c2] at h
      have c2b := decide_eq_false c2
      by_cases c3 : a0_7.toList = []
      · rw [if_pos c3] at h
        have c3b : (a0_7.toList == ([] : List UInt8)) = true := beq_iff_eq.2 c3
        have c3c : (a0_7.toList != ([] : List UInt8)) = false := bne_eq_false_iff_eq.2 c3
        have H := Aside0.mk h
        clear h
        go_enter Tryd.func29, Tryd.ntmps29
        go_wp2_with (first
          | ((with_reducible refine gate_dst (N := 2) rfl ?_); refine box_event ?hg (N := 2) ?hd (cs := #[.int .i64 1, .string a0_1, .string a0_2, .string a0_3, .slice A0_4 n4 c0_4, .slice A0_5 n5 c0_5, .slice A0_6 l0_6.length c0_6, .string a0_7]) (t := 33) ?hr ?_; (case hd => rfl); (case hg => rfl); (case hr => first | (go_simp; done) | (go_simp; rfl)); intro gb hg w1 hbox hb; have HB := Aside0.mk (show Below w.heap.size w w1 from hb); have BK := Aside0.mk hbox; clear hb hbox hg; obtain ⟨hz0, hz1, hz2, hz3, hz4, hz5, hz6, hz7⟩ := bc8 BK.out)
          | (go_at_call 54; obtain ⟨t, ht, hT, hFl⟩ := impl_kidsOk.and2_elim H.out; refine (impl_preOk.calls k a0_1 t _ (HT.out.below HB.out) ht).mono ?_; rintro e w2 ⟨rfl, hb⟩; replace BK := Aside0.mk (blk_below BK.out hb); replace HB := Aside0.mk (below_step HB.out hb); clear hb ht; obtain ⟨hz0, hz1, hz2, hz3, hz4, hz5, hz6, hz7⟩ := bc8 BK.out; (rcases Bool.eq_false_or_eq_true t with q_ | q_ <;> subst q_ <;> first | (replace H := Aside0.mk (hT rfl); clear hT hFl) | (have hr_ := hFl rfl; subst hr_; clear hT hFl)))
          | (go_at_call 55; obtain ⟨t, ht, hT, hFl⟩ := impl_kidsOk.and2_elim H.out; refine (impl_uriOk.calls k a0_3 a0_1 t _ (HT.out.below HB.out) ht).mono ?_; rintro e w2 ⟨rfl, hb⟩; replace BK := Aside0.mk (blk_below BK.out hb); replace HB := Aside0.mk (below_step HB.out hb); clear hb ht; obtain ⟨hz0, hz1, hz2, hz3, hz4, hz5, hz6, hz7⟩ := bc8 BK.out; (rcases Bool.eq_false_or_eq_true t with q_ | q_ <;> subst q_ <;> first | (replace H := Aside0.mk (hT rfl); clear hT hFl) | (have hr_ := hFl rfl; subst hr_; clear hT hFl)))
          | (go_at_call 56; obtain ⟨t, ht, hT, hFl⟩ := impl_kidsOk.and2_elim H.out; refine (impl_PlainOk.calls k a0_2 t _ (HT.out.below HB.out) ht).mono ?_; rintro e w2 ⟨rfl, hb⟩; replace BK := Aside0.mk (blk_below BK.out hb); replace HB := Aside0.mk (below_step HB.out hb); clear hb ht; obtain ⟨hz0, hz1, hz2, hz3, hz4, hz5, hz6, hz7⟩ := bc8 BK.out; (rcases Bool.eq_false_or_eq_true t with q_ | q_ <;> subst q_ <;> first | (replace H := Aside0.mk (hT rfl); clear hT hFl) | (have hr_ := hFl rfl; subst hr_; clear hT hFl)))
          | (go_at_call 57; obtain ⟨t, ht, hT, hFl⟩ := impl_kidsOk.and2_elim H.out; have hX := impl_DeclsOk.calls k A0_4 c0_4 l0_4 t _ (Kd.C_below HR.out.1 HB.out) (HN.out.1 ▸ HQ.out.1) (HT.out.below HB.out) ht; rw [HN.out.1] at hX; refine hX.mono ?_; rintro e w2 ⟨rfl, hb⟩; replace BK := Aside0.mk (blk_below BK.out hb); replace HB := Aside0.mk (below_step HB.out hb); clear hb ht hX; obtain ⟨hz0, hz1, hz2, hz3, hz4, hz5, hz6, hz7⟩ := bc8 BK.out; (rcases Bool.eq_false_or_eq_true t with q_ | q_ <;> subst q_ <;> first | (replace H := Aside0.mk (hT rfl); clear hT hFl) | (have hr_ := hFl rfl; subst hr_; clear hT hFl)))
          | (go_at_call 58; obtain ⟨t, ht, hT, hFl⟩ := impl_kidsOk.and2_elim H.out; have hX := impl_attrsOk.calls k A0_5 c0_5 l0_5 t _ (Kd.C_below HR.out.2.1 HB.out) (HN.out.2 ▸ HQ.out.2.1) (HT.out.below HB.out) ht; rw [HN.out.2] at hX; refine hX.mono ?_; rintro e w2 ⟨rfl, hb⟩; replace BK := Aside0.mk (blk_below BK.out hb); replace HB := Aside0.mk (below_step HB.out hb); clear hb ht hX; obtain ⟨hz0, hz1, hz2, hz3, hz4, hz5, hz6, hz7⟩ := bc8 BK.out; (rcases Bool.eq_false_or_eq_true t with q_ | q_ <;> subst q_ <;> first | (replace H := Aside0.mk (hT rfl); clear hT hFl) | (have hr_ := hFl rfl; subst hr_; clear hT hFl)))
          | (go_at_call 31; refine (IH.out 1 a0_1 a0_2 a0_3 A0_4 n4 c0_4 A0_5 n5 c0_5 A0_6 c0_6 l0_6 a0_7 (wrap64 (a1 + 1)) r _ (Kd.C_below HR.out.2.2 HB.out) HQ.out.2.2 (HT.out.below HB.out) H.out).mono ?_; rintro e w2 ⟨rfl, hb⟩; replace HB := Aside0.mk (below_step HB.out hb)))
        all_goals
          go_ret
          exact ⟨rfl, HB.out⟩
      · rw [if_neg c3] at h
        cases h
        have c3b : (a0_7.toList == ([] : List UInt8)) = false := beq_eq_false_iff_ne.2 c3
        have c3c : (a0_7.toList != ([] : List UInt8)) = true := bne_iff_ne.2 c3
        clear HR HQ HT IH HN
        go_enter Tryd.func29, Tryd.ntmps29
        go_wp2
        go_ret
        exact ⟨rfl, below_alloc (Below.refl _ _) _⟩
  · rw [if_neg c1] at h
    have c1b : (a0_0 != 1) = true := bne_iff_ne.2 c1
    have c1c : (a0_0 == 1) = false := beq_eq_false_iff_ne.2 c1
    have hX := fun (W : World) (hW : Below w.heap.size w W) => impl_leafOk.calls k a0_0 a0_1 a0_2 a0_3 A0_4 c0_4 l0_4 A0_5 c0_5 l0_5 A0_6 c0_6 l0_6 a0_7 r W (Kd.C_below HR.out.1 hW) (HN.out.1 ▸ HQ.out.1) (Kd.C_below HR.out.2.1 hW) (HN.out.2 ▸ HQ.out.2.1) (Kd.C_below HR.out.2.2 hW) HQ.out.2.2 (HT.out.below hW) h
    rw [HN.out.1, HN.out.2] at hX
    have HX := Aside0.mk hX
    clear hX h IH
    go_enter Tryd.func29, Tryd.ntmps29
    go_wp2_with (go_at_call 53; refine (HX.out _ ?a1).mono ?_; (case a1 => exact below_alloc (Below.refl _ _) _); rintro e w' ⟨rfl, hb⟩; have hB := below_then (below_alloc (Below.refl w.heap.size w) _) (by simp) hb)
    go_ret
    exact ⟨rfl, hB⟩
def impl_kidsOk.f (k : Nat) (a0_0 : Int) (a0_1 a0_2 a0_3 : ByteArray) (l0_4 : List S84) (l0_5 : List S72) (l0_6 : List S33) (a0_7 : ByteArray) (a1 : Int) : Option Bool := impl_kidsOk.kids (impl_kidsOk.part k) k l0_6 a1
theorem impl_kidsOk.calls (k : Nat) (a0_0 : Int) (a0_1 : ByteArray) (a0_2 : ByteArray) (a0_3 : ByteArray) (A0_4 : Option Addr) (c0_4 : Nat) (l0_4 : List S84) (A0_5 : Option Addr) (c0_5 : Nat) (l0_5 : List S72) (A0_6 : Option Addr) (c0_6 : Nat) (l0_6 : List S33) (a0_7 : ByteArray) (a1 : Int) (r : Bool) (w : World) (_ : Kd.C k84 w A0_4 l0_4.length l0_4) (_ : l0_4.length ≤ c0_4) (_ : Kd.C k72 w A0_5 l0_5.length l0_5) (_ : l0_5.length ≤ c0_5) (hr0_6 : Kd.C k33 w A0_6 l0_6.length l0_6) (hc0_6 : l0_6.length ≤ c0_6) (hTab : Tabs w) (h : impl_kidsOk.f k a0_0 a0_1 a0_2 a0_3 l0_4 l0_5 l0_6 a0_7 a1 = some r) :
    Calls Tryd.prog 31 #[.agg #[.int .i64 a0_0, .string a0_1, .string a0_2, .string a0_3, .slice A0_4 l0_4.length c0_4, .slice A0_5 l0_5.length c0_5, .slice A0_6 l0_6.length c0_6, .string a0_7], .int .i64 a1] w fun e w' => e = .returned (.bool r) ∧ Below w.heap.size w w' :=
  impl_kidsOk.callsF (impl_kidsOk.part k) (impl_kidsOk.part_calls k) k a0_0 a0_1 a0_2 a0_3 A0_4 _ c0_4 A0_5 _ c0_5 A0_6 c0_6 l0_6 a0_7 a1 r w hr0_6 hc0_6 hTab h

/-! ### impl_partOk: function 29 -/
def impl_partOk.f := impl_kidsOk.part
theorem impl_partOk.calls (k : Nat) (a0_0 : Int) (a0_1 : ByteArray) (a0_2 : ByteArray) (a0_3 : ByteArray) (A0_4 : Option Addr) (c0_4 : Nat) (l0_4 : List S84) (A0_5 : Option Addr) (c0_5 : Nat) (l0_5 : List S72) (A0_6 : Option Addr) (c0_6 : Nat) (l0_6 : List S33) (a0_7 : ByteArray) (a1 : Int) (r : Bool) (w : World) (hr0_4 : Kd.C k84 w A0_4 l0_4.length l0_4) (hc0_4 : l0_4.length ≤ c0_4) (hr0_5 : Kd.C k72 w A0_5 l0_5.length l0_5) (hc0_5 : l0_5.length ≤ c0_5) (hr0_6 : Kd.C k33 w A0_6 l0_6.length l0_6) (hc0_6 : l0_6.length ≤ c0_6) (hTab : Tabs w) (h : impl_partOk.f k a0_0 a0_1 a0_2 a0_3 l0_4 l0_5 l0_6 a0_7 a1 = some r) :
    Calls Tryd.prog 29 #[.agg #[.int .i64 a0_0, .string a0_1, .string a0_2, .string a0_3, .slice A0_4 l0_4.length c0_4, .slice A0_5 l0_5.length c0_5, .slice A0_6 l0_6.length c0_6, .string a0_7], .int .i64 a1] w fun e w' => e = .returned (.bool r) ∧ Below w.heap.size w w' :=
  impl_kidsOk.part_calls k a0_0 a0_1 a0_2 a0_3 A0_4 c0_4 l0_4 A0_5 c0_5 l0_5 A0_6 c0_6 l0_6 a0_7 a1 r w hr0_4 hc0_4 hr0_5 hc0_5 hr0_6 hc0_6 hTab h

/-! ### impl_ofKind: function 30 -/
def impl_ofKind.l0 : Nat → Int → Int → List (S33) → Int → Int → Option (Int)
 | 0, _, _, _, _, _ => none
 | k + 1, x1, x5, x8, x9, x10 => if x10 < x9 then (if 0 ≤ x10 then (if x10 < (x8.length : Int) then (if ((rd_T33 x8 x10).f0) = x1 then (impl_ofKind.l0 k x1 (wrap64 (x5 + 1)) x8 x9 (wrap64 (x10 + 1))) else (impl_ofKind.l0 k x1 x5 x8 x9 (wrap64 (x10 + 1)))) else (none)) else (none)) else (some x5)
def impl_ofKind.f (k : Nat) (l0 : List (S33)) (a1 : Int) : Option (Int) := impl_ofKind.l0 k a1 0 l0 (l0.length : Int) 0
set_option maxHeartbeats 8000000 in
set_option maxRecDepth 100000 in
theorem impl_ofKind.calls (k : Nat) (A0 : Option Addr) (c0 : Nat) (l0 : List (S33)) (a1 : Int) (r : Int) (w : World) (hr0 : Kd.C k33 w A0 l0.length l0) (hc0 : l0.length ≤ c0) (h : impl_ofKind.f k l0 a1 = some r) :
  Calls Tryd.prog 30 #[.slice A0 l0.length c0, .int .i64 a1] w fun e w' => e = .returned (.int .i64 r) ∧ Below w.heap.size w w' := by
 have hu33 := Tryd.underlying33
 have HR0 := Aside0.mk hr0
 have HC0 := Aside0.mk hc0
 clear hr0 hc0
 have HB := Aside0.mk (Below.refl w.heap.size w)
 have H : (impl_ofKind.l0 k a1 0 l0 (l0.length : Int) 0) = some r := h
 clear h
 have H' := Aside0.mk H
 clear H
 go_enter Tryd.func30, Tryd.ntmps30
 go_wp2
 go_loopg [5, 10] k (fun kq v5 v10 w' => ∃ (x5_1 : Int) (x10_1 : Int), v5 = .int .i64 x5_1 ∧ v10 = .int .i64 x10_1 ∧ Aside0 (impl_ofKind.l0 kq a1 x5_1 l0 (l0.length : Int) x10_1 = some r) ∧ Aside0 (kq ≤ k) ∧ Aside0 (Below w.heap.size w w'))
 case atStart => exact ⟨(0), (0), rG, rG, H', ⟨Nat.le_refl _⟩, ⟨by repeat (first|(with_reducible first|exact HB.out|apply zA|apply zN|apply zD) | exact HB.out)⟩⟩
 case round =>
  clear H'
  try clear p2
  try clear p2
  obtain ⟨x5_1, x10_1, rfl, rfl, HA, HK1, HB⟩ := hrel
  cases gk with
  | zero => exact absurd HA.out (by simp [impl_ofKind.l0])
  | succ k1 =>
   have H := HA.out
   clear HA
   simp only [impl_ofKind.l0] at H
   by_cases c3 : x10_1 < (l0.length : Int)
   ·rw [if_pos c3] at H
    have c3b0 : decide (x10_1 < (l0.length : Int)) = true := decide_eq_true c3
    clear c3
    by_cases c4 : 0 ≤ x10_1
    ·rw [if_pos c4] at H
     have c4b0 : decide (0 ≤ x10_1) = true := decide_eq_true c4
     clear c4
     by_cases c5 : x10_1 < (l0.length : Int)
     ·rw [if_pos c5] at H
      have c5b0 : decide (x10_1 < (l0.length : Int)) = true := decide_eq_true c5
      clear c5
      have p296 : 0 ≤ (x10_1 : Int) := odt
      have q296 : x10_1 < (l0.length : Int) := odt
      obtain ⟨ad296, A296_4, c296_4, A296_5, c296_5, A296_6, c296_6, e296, hx296_0, hx296_1, hx296_2, hx296_3, hx296_4, hx296_5, hx296_6, hx296_7, hl296_4, hi296_4, hl296_5, hi296_5, hl296_6, hi296_6⟩ := at_T33 HR0.out x10_1 p296 q296
      cases e296
      replace hx296_0 := (HB.out.cell (World.block_lt_of_cell? w _ hx296_0)).trans hx296_0
      replace hx296_1 := (HB.out.cell (World.block_lt_of_cell? w _ hx296_1)).trans hx296_1
      replace hx296_2 := (HB.out.cell (World.block_lt_of_cell? w _ hx296_2)).trans hx296_2
      replace hx296_3 := (HB.out.cell (World.block_lt_of_cell? w _ hx296_3)).trans hx296_3
      replace hx296_4 := (HB.out.cell (World.block_lt_of_cell? w _ hx296_4)).trans hx296_4
      replace hx296_5 := (HB.out.cell (World.block_lt_of_cell? w _ hx296_5)).trans hx296_5
      replace hx296_6 := (HB.out.cell (World.block_lt_of_cell? w _ hx296_6)).trans hx296_6
      replace hx296_7 := (HB.out.cell (World.block_lt_of_cell? w _ hx296_7)).trans hx296_7
      have HR296_4 := Aside0.mk hi296_4
      have HC296_4 := Aside0.mk hl296_4
      clear hi296_4 hl296_4
      have HR296_5 := Aside0.mk hi296_5
      have HC296_5 := Aside0.mk hl296_5
      clear hi296_5 hl296_5
      have HR296_6 := Aside0.mk hi296_6
      have HC296_6 := Aside0.mk hl296_6
      clear hi296_6 hl296_6
      replace p296 := eq_true p296
      replace q296 := eq_true q296
      go_wp2_with (first | ((with_reducible refine gate_dst (N := 7) rfl ?_); refine box_event ?hg (N := 7) ?hd (cs := #[.int .i64 0, .string (⟨#[]⟩ : ByteArray), .string (⟨#[]⟩ : ByteArray), .string (⟨#[]⟩ : ByteArray), .slice none 0 0, .slice none 0 0, .slice none 0 0, .string (⟨#[]⟩ : ByteArray)]) (t := 33) ?hr ?_; (case hd => rfl); (case hg => rfl); (case hr => first | (go_simp; done) | (go_simp; rfl)); intro gb297 hg w6 hbox hb; have BK297 := Aside0.mk (hbox); have GW297 := Aside0.mk ((by rw [hg]; exact (below_size (by repeat (first|(with_reducible first|exact HB.out|apply zA|apply zN|apply zD) | exact HB.out))) : w.heap.size ≤ gb297)); have GE297 := Aside0.mk ((by rw [hg]; exact (below_size (by repeat (first|(with_reducible first|exact HB.out|apply zA|apply zN|apply zD) | exact HB.out))) : w.heap.size ≤ gb297)); replace HB := Aside0.mk (below_step (by repeat (first|(with_reducible first|exact HB.out|apply zA|apply zN|apply zD) | exact HB.out)) hb); clear hb hbox hg; obtain ⟨hcz7_0, hcz7_1, hcz7_2, hcz7_3, hcz7_4, hcz7_5, hcz7_6, hcz7_7⟩ := bc8 BK297.out; obtain ⟨hfz7_0, hfz7_1, hfz7_2, hfz7_3, hfz7_4, hfz7_5, hfz7_6, hfz7_7⟩ := bf8 BK297.out; refine halt_ ?_; intro q_ hq_))
      obtain ⟨rfl⟩ := hq_
      by_cases c8 : ((rd_T33 l0 x10_1).f0) = a1
      ·rw [if_pos c8] at H
       have c8b0 : (((rd_T33 l0 x10_1).f0) == a1) = true := beq_iff_eq.mpr c8
       have c8b1 : (((rd_T33 l0 x10_1).f0) != a1) = false := bne_eq_false_iff_eq.mpr c8
       clear c8
       have H' := Aside0.mk H
       clear H
       go_wp2
       go_roundg k1
       case measure => have := HK1.out; omega
       case rel => exact ⟨(wrap64 (x5_1 + 1)), (wrap64 (x10_1 + 1)), rG, rG, H', ⟨by have := HK1.out; omega⟩, ⟨by repeat (first|(with_reducible first|exact HB.out|apply zA|apply zN|apply zD | refine below_set ?_ GE297.out) | exact HB.out)⟩⟩
      ·rw [if_neg c8] at H
       have c8b0 : (((rd_T33 l0 x10_1).f0) == a1) = false := beq_eq_false_iff_ne.mpr c8
       have c8b1 : (((rd_T33 l0 x10_1).f0) != a1) = true := bne_iff_ne.mpr c8
       have H' := Aside0.mk H
       clear H
       go_wp2
       go_roundg k1
       case measure => have := HK1.out; omega
       case rel => exact ⟨(x5_1), (wrap64 (x10_1 + 1)), rG, rG, H', ⟨by have := HK1.out; omega⟩, ⟨by repeat (first|(with_reducible first|exact HB.out|apply zA|apply zN|apply zD | refine below_set ?_ GE297.out) | exact HB.out)⟩⟩
     ·rw [if_neg c5] at H
      exact absurd H (by simp)
    ·rw [if_neg c4] at H
     exact absurd H (by simp)
   ·rw [if_neg c3] at H
    have c3b0 : decide (x10_1 < (l0.length : Int)) = false := decide_eq_false c3
    clear c3
    obtain rfl := Option.some.inj H
    go_wp2
    go_ret
    exact ⟨rE, by repeat (first|(with_reducible first|exact HB.out|apply zA|apply zN|apply zD) | exact HB.out)⟩

end Go.Proofs.YtlfjdaoibjjakaaDoor.PZ
