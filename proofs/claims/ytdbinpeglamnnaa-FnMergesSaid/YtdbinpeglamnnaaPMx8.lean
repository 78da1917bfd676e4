-- Written by the session's program hprint.py, over the kit's print program. Lean checks it.
import Derived.Test.YtdbinpeglamnnaaPMx0
import Derived.Test.YtdbinpeglamnnaaPMx7
namespace Go.Proofs.Ytdbinpeglamnnaa.PM
open Go.RowKit Go.Proofs.YtdbinpeglamnnaaW.PrintWords Go.Proofs.YtdbinpeglamnnaaW.PrintLast Go.Proofs.YtdbinpeglamnnaaW.PrintMore
attribute [local go_sem] max2_int min2_int max_two min_two max_three min_three max_four min_four   -- for this text's walks alone
set_option linter.unusedVariables false
set_option linter.unusedSimpArgs false
set_option maxHeartbeats 8000000
set_option maxRecDepth 100000

/-! ### laws_sameList: function 34 -/
def laws_sameList.l0 : Nat → List (S34) → List (S34) → Int → Option (Bool)
 | 0, _, _, _ => none
 | k + 1, x0, x1, x5 => if x5 < (x0.length : Int) then (if 0 ≤ x5 then (if x5 < (x1.length : Int) then ((impl_SameNode.f k ((rd_T34 x0 x5).f0) ((rd_T34 x0 x5).f1) ((rd_T34 x0 x5).f2) ((rd_T34 x0 x5).f3) ((rd_T34 x0 x5).f4) ((rd_T34 x0 x5).f5) ((rd_T34 x0 x5).f6) ((rd_T34 x0 x5).f7) ((rd_T34 x1 x5).f0) ((rd_T34 x1 x5).f1) ((rd_T34 x1 x5).f2) ((rd_T34 x1 x5).f3) ((rd_T34 x1 x5).f4) ((rd_T34 x1 x5).f5) ((rd_T34 x1 x5).f6) ((rd_T34 x1 x5).f7)).bind fun t379 => (if t379 = true then (laws_sameList.l0 k x0 x1 (wrap64 (x5 + 1))) else (some false))) else (none)) else (none)) else (some true)
def laws_sameList.f (k : Nat) (l0 : List (S34)) (l1 : List (S34)) : Option (Bool) := if (l0.length : Int) = (l1.length : Int) then (laws_sameList.l0 k l0 l1 0) else (some false)
def laws_sameList.T6 : Bool × List (List Nat × List Nat) := (true, [([], []), ([], []), ([0, 1], [0, 1]), ([2], [2]), ([], []), ([], []), ([4, 5], [4, 5]), ([6], [6]), ([3, 7], [3, 7]), ([8], [8])])
def laws_sameList.B6 : List Nat := [0, 0, 3, 7, 0, 0, 48, 112, 255, 511]
theorem laws_sameList.tab6 : rtab .any (opsOf Try.f34 6) = laws_sameList.T6 := by kernel_rfl
theorem laws_sameList.bits6 : waitsOk laws_sameList.T6.2 laws_sameList.B6 = true := by kernel_rfl
theorem laws_sameList.calls (k : Nat) (A0 : Option Addr) (c0 : Nat) (l0 : List (S34)) (A1 : Option Addr) (c1 : Nat) (l1 : List (S34)) (r : Bool) (w : World) (hr0 : Kd.C k34 w A0 l0.length l0) (hc0 : l0.length ≤ c0) (hr1 : Kd.C k34 w A1 l1.length l1) (hc1 : l1.length ≤ c1) (h : laws_sameList.f k l0 l1 = some r) :
  Calls Try.prog 34 #[.slice A0 l0.length c0, .slice A1 l1.length c1] w fun e w' => e = .returned (.bool r) ∧ Below w.heap.size w w' := by
 have hu34 := Try.underlying34
 have HR0 := Aside0.mk hr0
 have HC0 := Aside0.mk hc0
 clear hr0 hc0
 have HR1 := Aside0.mk hr1
 have HC1 := Aside0.mk hc1
 clear hr1 hc1
 have HB := Aside0.mk (Below.refl w.heap.size w)
 have H : (if (l0.length : Int) = (l1.length : Int) then (laws_sameList.l0 k l0 l1 0) else (some false)) = some r := h
 clear h
 by_cases c3 : (l0.length : Int) = (l1.length : Int)
 ·rw [if_pos c3] at H
  obtain ⟨c3b0, c3b1⟩ := eqT c3
  have c3b2 : (l0.length == l1.length) = true := by first | simpa using c3 | (simp at c3 ⊢; omega)
  clear c3
  have H' := Aside0.mk H
  clear H
  go_enter Try.func34, Try.ntmps34
  go_wp2
  go_loopg [5] k (fun kq v5 w' => ∃ (x5_1 : Int), v5 = .int .i64 x5_1 ∧ Aside0 (laws_sameList.l0 kq l0 l1 x5_1 = some r) ∧ Aside0 (kq ≤ k) ∧ Aside0 (Below w.heap.size w w'))
  case atStart => exact ⟨(0), rG, H', ⟨Nat.le_refl _⟩, ⟨hB⟩⟩
  case round =>
   clear H'
   try clear c3; try clear c3b2; try clear c3b1; try clear c3b0
   obtain ⟨x5_1, rfl, HA, HK1, HB⟩ := hrel
   cases gk with
   | zero => exact absurd HA.out (by simp [laws_sameList.l0])
   | succ k1 =>
    have H := HA.out
    clear HA
    simp only [laws_sameList.l0] at H
    by_cases c4 : x5_1 < (l0.length : Int)
    ·rw [if_pos c4] at H
     have c4b0 : decide (x5_1 < (l0.length : Int)) = true := decide_eq_true c4
     clear c4
     obtain ⟨c5, H⟩ := if_som H
     have c5b0 : decide (0 ≤ x5_1) = true := decide_eq_true c5
     clear c5
     obtain ⟨c6, H⟩ := if_som H
     have c6b0 : decide (x5_1 < (l1.length : Int)) = true := decide_eq_true c6
     clear c6
     replace H := Option.bind_eq_some_iff.mp H
     obtain ⟨t379, A70, H⟩ := H
     try dsimp only at H
     have A7 := Aside0.mk A70
     clear A70
     try go_wp2
     replace HB := Aside0.mk (below_drew1 HB.out)
     have p377 : 0 ≤ (x5_1 : Int) := odt
     have q377 : x5_1 < (l0.length : Int) := odt
     obtain ⟨ad377, A377_4, c377_4, A377_5, c377_5, A377_6, c377_6, e377, hx377_0, hx377_1, hx377_2, hx377_3, hx377_4, hx377_5, hx377_6, hx377_7, hl377_4, hi377_4, hl377_5, hi377_5, hl377_6, hi377_6⟩ := at_T34 HR0.out x5_1 p377 q377
     have hw377_7 := hx377_7
     have hw377_6 := hx377_6
     have hw377_5 := hx377_5
     have hw377_4 := hx377_4
     have hw377_3 := hx377_3
     have hw377_2 := hx377_2
     have hw377_1 := hx377_1
     have hw377_0 := hx377_0
     cases e377
     replace hx377_0 := pw_cell_below HB.out hx377_0
     replace hx377_1 := pw_cell_below HB.out hx377_1
     replace hx377_2 := pw_cell_below HB.out hx377_2
     replace hx377_3 := pw_cell_below HB.out hx377_3
     replace hx377_4 := pw_cell_below HB.out hx377_4
     replace hx377_5 := pw_cell_below HB.out hx377_5
     replace hx377_6 := pw_cell_below HB.out hx377_6
     replace hx377_7 := pw_cell_below HB.out hx377_7
     have HR377_4 := Aside0.mk hi377_4
     have HC377_4 := Aside0.mk hl377_4
     clear hi377_4 hl377_4
     have HR377_5 := Aside0.mk hi377_5
     have HC377_5 := Aside0.mk hl377_5
     clear hi377_5 hl377_5
     have HR377_6 := Aside0.mk hi377_6
     have HC377_6 := Aside0.mk hl377_6
     clear hi377_6 hl377_6
     replace p377 := eq_true p377
     replace q377 := eq_true q377
     have p378 : 0 ≤ (x5_1 : Int) := odt
     have q378 : x5_1 < (l1.length : Int) := odt
     obtain ⟨ad378, A378_4, c378_4, A378_5, c378_5, A378_6, c378_6, e378, hx378_0, hx378_1, hx378_2, hx378_3, hx378_4, hx378_5, hx378_6, hx378_7, hl378_4, hi378_4, hl378_5, hi378_5, hl378_6, hi378_6⟩ := at_T34 HR1.out x5_1 p378 q378
     have hw378_7 := hx378_7
     have hw378_6 := hx378_6
     have hw378_5 := hx378_5
     have hw378_4 := hx378_4
     have hw378_3 := hx378_3
     have hw378_2 := hx378_2
     have hw378_1 := hx378_1
     have hw378_0 := hx378_0
     cases e378
     replace hx378_0 := pw_cell_below HB.out hx378_0
     replace hx378_1 := pw_cell_below HB.out hx378_1
     replace hx378_2 := pw_cell_below HB.out hx378_2
     replace hx378_3 := pw_cell_below HB.out hx378_3
     replace hx378_4 := pw_cell_below HB.out hx378_4
     replace hx378_5 := pw_cell_below HB.out hx378_5
     replace hx378_6 := pw_cell_below HB.out hx378_6
     replace hx378_7 := pw_cell_below HB.out hx378_7
     have HR378_4 := Aside0.mk hi378_4
     have HC378_4 := Aside0.mk hl378_4
     clear hi378_4 hl378_4
     have HR378_5 := Aside0.mk hi378_5
     have HC378_5 := Aside0.mk hl378_5
     clear hi378_5 hl378_5
     have HR378_6 := Aside0.mk hi378_6
     have HC378_6 := Aside0.mk hl378_6
     clear hi378_6 hl378_6
     replace p378 := eq_true p378
     replace q378 := eq_true q378
     refine start_ (n := 10) (S := fun w' => w'.cell? (ad377.add ((x5_1).toNat * 8)) = some (.int .i64 ((rd_T34 l0 x5_1).f0)) ∧ w'.cell? ⟨(ad377.add ((x5_1).toNat * 8)).block, (ad377.add ((x5_1).toNat * 8)).off + 1, none⟩ = some (.string ((rd_T34 l0 x5_1).f1)) ∧ w'.cell? ⟨(ad377.add ((x5_1).toNat * 8)).block, (ad377.add ((x5_1).toNat * 8)).off + 2, none⟩ = some (.string ((rd_T34 l0 x5_1).f2)) ∧ w'.cell? ⟨(ad377.add ((x5_1).toNat * 8)).block, (ad377.add ((x5_1).toNat * 8)).off + 3, none⟩ = some (.string ((rd_T34 l0 x5_1).f3)) ∧ w'.cell? ⟨(ad377.add ((x5_1).toNat * 8)).block, (ad377.add ((x5_1).toNat * 8)).off + 4, none⟩ = some (.slice A377_4 ((rd_T34 l0 x5_1).f4).length c377_4) ∧ w'.cell? ⟨(ad377.add ((x5_1).toNat * 8)).block, (ad377.add ((x5_1).toNat * 8)).off + 5, none⟩ = some (.slice A377_5 ((rd_T34 l0 x5_1).f5).length c377_5) ∧ w'.cell? ⟨(ad377.add ((x5_1).toNat * 8)).block, (ad377.add ((x5_1).toNat * 8)).off + 6, none⟩ = some (.slice A377_6 ((rd_T34 l0 x5_1).f6).length c377_6) ∧ w'.cell? ⟨(ad377.add ((x5_1).toNat * 8)).block, (ad377.add ((x5_1).toNat * 8)).off + 7, none⟩ = some (.string ((rd_T34 l0 x5_1).f7)) ∧ w'.cell? (ad378.add ((x5_1).toNat * 8)) = some (.int .i64 ((rd_T34 l1 x5_1).f0)) ∧ w'.cell? ⟨(ad378.add ((x5_1).toNat * 8)).block, (ad378.add ((x5_1).toNat * 8)).off + 1, none⟩ = some (.string ((rd_T34 l1 x5_1).f1)) ∧ w'.cell? ⟨(ad378.add ((x5_1).toNat * 8)).block, (ad378.add ((x5_1).toNat * 8)).off + 2, none⟩ = some (.string ((rd_T34 l1 x5_1).f2)) ∧ w'.cell? ⟨(ad378.add ((x5_1).toNat * 8)).block, (ad378.add ((x5_1).toNat * 8)).off + 3, none⟩ = some (.string ((rd_T34 l1 x5_1).f3)) ∧ w'.cell? ⟨(ad378.add ((x5_1).toNat * 8)).block, (ad378.add ((x5_1).toNat * 8)).off + 4, none⟩ = some (.slice A378_4 ((rd_T34 l1 x5_1).f4).length c378_4) ∧ w'.cell? ⟨(ad378.add ((x5_1).toNat * 8)).block, (ad378.add ((x5_1).toNat * 8)).off + 5, none⟩ = some (.slice A378_5 ((rd_T34 l1 x5_1).f5).length c378_5) ∧ w'.cell? ⟨(ad378.add ((x5_1).toNat * 8)).block, (ad378.add ((x5_1).toNat * 8)).off + 6, none⟩ = some (.slice A378_6 ((rd_T34 l1 x5_1).f6).length c378_6) ∧ w'.cell? ⟨(ad378.add ((x5_1).toNat * 8)).block, (ad378.add ((x5_1).toNat * 8)).off + 7, none⟩ = some (.string ((rd_T34 l1 x5_1).f7))) (ds := []) #[false, false, false, false, false, false, false, false, false, false] (by kernel_rfl) rfl rfl ⟨(pw_cell_below HB.out hw377_0), (pw_cell_below HB.out hw377_1), (pw_cell_below HB.out hw377_2), (pw_cell_below HB.out hw377_3), (pw_cell_below HB.out hw377_4), (pw_cell_below HB.out hw377_5), (pw_cell_below HB.out hw377_6), (pw_cell_below HB.out hw377_7), (pw_cell_below HB.out hw378_0), (pw_cell_below HB.out hw378_1), (pw_cell_below HB.out hw378_2), (pw_cell_below HB.out hw378_3), (pw_cell_below HB.out hw378_4), (pw_cell_below HB.out hw378_5), (pw_cell_below HB.out hw378_6), (pw_cell_below HB.out hw378_7)⟩ (fun hHeld => ?_); refine with_tabW laws_sameList.tab6 laws_sameList.bits6 (fun HT_ HW_ => ?_)
     generalize wr.drew = w8 at HB HR377_4 HR377_5 HR377_6 HR378_4 HR378_5 HR378_6 hx377_0 hx377_1 hx377_2 hx377_3 hx377_4 hx377_5 hx377_6 hx377_7 hx378_0 hx378_1 hx378_2 hx378_3 hx378_4 hx378_5 hx378_6 hx378_7 hHeld ⊢
     refine pU 0 17 (tf 1 9) ?_
     refine pU 1 18 (tf 2 8) ?_
     refine pU 2 19 (tf 3 7) ?_
     refine pU 4 21 #[true, true, true, false, true, false, false, false, false, false] ?_
     refine pU 5 22 #[true, true, true, false, true, true, false, false, false, false] ?_
     refine pU 6 23 #[true, true, true, false, true, true, true, false, false, false] ?_
     refine take_ (i := 3) (N := some 20) (v := ?_) (a' := ?_) (tf 7 3) rfl rfl (take_ofW HT_.out HW_.out (by kernel_rfl)) (fun _ _ _ h => h) (Or.inl ⟨by rfl, ?_⟩) hHeld ?_ ?_
     rotate_left
     ·rintro w' ⟨s0, s1, s2, s3, s4, s5, s6, s7, s8, s9, s10, s11, s12, s13, s14, s15⟩
      go_simp
      with_reducible rfl
     rotate_left
     ·simp only [Act.put, sT, sZ, sS, i64_w, i32_w]
      rfl
     refine take_ (i := 7) (N := some 24) (v := ?_) (a' := ?_) (tf 8 2) rfl rfl (take_ofW HT_.out HW_.out (by kernel_rfl)) (fun _ _ _ h => h) (Or.inl ⟨by rfl, ?_⟩) hHeld ?_ ?_
     rotate_left
     ·rintro w' ⟨s0, s1, s2, s3, s4, s5, s6, s7, s8, s9, s10, s11, s12, s13, s14, s15⟩
      go_simp
      with_reducible rfl
     rotate_left
     ·simp only [Act.put, sT, sZ, sS, i64_w, i32_w]
      rfl
     refine one_ (i := 8) (N := some 25) (tf 9 1) rfl rfl (one_of HT_.out (by kernel_rfl)) (by decide) (fun K hK => ?_)
     refine goes_ Try.func61 (by kernel_rfl) rfl #[.agg #[.int .i64 ((rd_T34 l0 x5_1).f0), .string ((rd_T34 l0 x5_1).f1), .string ((rd_T34 l0 x5_1).f2), .string ((rd_T34 l0 x5_1).f3), .slice A377_4 ((rd_T34 l0 x5_1).f4).length c377_4, .slice A377_5 ((rd_T34 l0 x5_1).f5).length c377_5, .slice A377_6 ((rd_T34 l0 x5_1).f6).length c377_6, .string ((rd_T34 l0 x5_1).f7)], .agg #[.int .i64 ((rd_T34 l1 x5_1).f0), .string ((rd_T34 l1 x5_1).f1), .string ((rd_T34 l1 x5_1).f2), .string ((rd_T34 l1 x5_1).f3), .slice A378_4 ((rd_T34 l1 x5_1).f4).length c378_4, .slice A378_5 ((rd_T34 l1 x5_1).f5).length c378_5, .slice A378_6 ((rd_T34 l1 x5_1).f6).length c378_6, .string ((rd_T34 l1 x5_1).f7)]] (by rfl) rfl rfl mA ?_
     with_reducible refine (impl_SameNode.calls k1 ((rd_T34 l0 x5_1).f0) ((rd_T34 l0 x5_1).f1) ((rd_T34 l0 x5_1).f2) ((rd_T34 l0 x5_1).f3) _ _ ((rd_T34 l0 x5_1).f4) _ _ ((rd_T34 l0 x5_1).f5) _ _ ((rd_T34 l0 x5_1).f6) ((rd_T34 l0 x5_1).f7) ((rd_T34 l1 x5_1).f0) ((rd_T34 l1 x5_1).f1) ((rd_T34 l1 x5_1).f2) ((rd_T34 l1 x5_1).f3) _ _ ((rd_T34 l1 x5_1).f4) _ _ ((rd_T34 l1 x5_1).f5) _ _ ((rd_T34 l1 x5_1).f6) ((rd_T34 l1 x5_1).f7) t379 _ ?side1 ?side2 ?side3 ?side4 ?side5 ?side6 ?side7 ?side8 ?side9 ?side10 ?side11 ?side12 A7.out).mono ?_
     (case side1 => repeat (first | exact (Kd.C_below HR377_4.out HB.out) | (with_reducible refine Kd.C_alloc ?_ _) | (with_reducible refine Kd.C_drewN ?_ _) | (with_reducible refine Kd.C_drew ?_)))
     (case side2 => exact HC377_4.out)
     (case side3 => repeat (first | exact (Kd.C_below HR377_5.out HB.out) | (with_reducible refine Kd.C_alloc ?_ _) | (with_reducible refine Kd.C_drewN ?_ _) | (with_reducible refine Kd.C_drew ?_)))
     (case side4 => exact HC377_5.out)
     (case side5 => repeat (first | exact (Kd.C_below HR377_6.out HB.out) | (with_reducible refine Kd.C_alloc ?_ _) | (with_reducible refine Kd.C_drewN ?_ _) | (with_reducible refine Kd.C_drew ?_)))
     (case side6 => exact HC377_6.out)
     (case side7 => repeat (first | exact (Kd.C_below HR378_4.out HB.out) | (with_reducible refine Kd.C_alloc ?_ _) | (with_reducible refine Kd.C_drewN ?_ _) | (with_reducible refine Kd.C_drew ?_)))
     (case side8 => exact HC378_4.out)
     (case side9 => repeat (first | exact (Kd.C_below HR378_5.out HB.out) | (with_reducible refine Kd.C_alloc ?_ _) | (with_reducible refine Kd.C_drewN ?_ _) | (with_reducible refine Kd.C_drew ?_)))
     (case side10 => exact HC378_5.out)
     (case side11 => repeat (first | exact (Kd.C_below HR378_6.out HB.out) | (with_reducible refine Kd.C_alloc ?_ _) | (with_reducible refine Kd.C_drewN ?_ _) | (with_reducible refine Kd.C_drew ?_)))
     (case side12 => exact HC378_6.out)
     rintro e w9 ⟨rfl, hb⟩
     refine ⟨_, rfl, ?_⟩
     replace HB := Aside0.mk (below_step hB hb)
     (try clear hb)
     (try clear hb2)
     (try clear hk)
     (try clear hi)
     refine hK.out _ _ ⟨(pw_cell_below HB.out hw377_0), (pw_cell_below HB.out hw377_1), (pw_cell_below HB.out hw377_2), (pw_cell_below HB.out hw377_3), (pw_cell_below HB.out hw377_4), (pw_cell_below HB.out hw377_5), (pw_cell_below HB.out hw377_6), (pw_cell_below HB.out hw377_7), (pw_cell_below HB.out hw378_0), (pw_cell_below HB.out hw378_1), (pw_cell_below HB.out hw378_2), (pw_cell_below HB.out hw378_3), (pw_cell_below HB.out hw378_4), (pw_cell_below HB.out hw378_5), (pw_cell_below HB.out hw378_6), (pw_cell_below HB.out hw378_7)⟩ (fun hHeld => ?_)
     clear hK K
     refine norm_ (a' := ?_) ?_ ?_
     rotate_left
     ·show Act.put _ (some 25) _ = _
      simp only [Act.put, sT, sZ, sS, i64_w, i32_w]
      rfl
     refine pU 9 26 (tf 10 0) ?_
     refine done_ (done_of HT_.out (by kernel_rfl)) ?_
     by_cases c10 : t379 = true
     ·subst c10
      rw [if_pos rfl] at H
      have H' := Aside0.mk H
      clear H
      go_wp2
      go_roundg k1
      case measure => have := HK1.out; omega
      case rel => exact ⟨(wrap64 (x5_1 + 1)), rG, H', ⟨by have := HK1.out; omega⟩, ⟨hB⟩⟩
     ·replace c10 := Bool.eq_false_iff.mpr c10
      subst c10
      rw [if_neg (show ¬ (false = true) by decide)] at H
      obtain rfl := Option.some.inj H
      go_wp2
      go_ret
      exact ⟨rE, hB⟩
    ·rw [if_neg c4] at H
     have c4b0 : decide (x5_1 < (l0.length : Int)) = false := decide_eq_false c4
     clear c4
     obtain rfl := Option.some.inj H
     go_wp2
     go_ret
     exact ⟨rE, hB⟩
 ·rw [if_neg c3] at H
  obtain ⟨c3b0, c3b1⟩ := eqF c3
  have c3b2 : (l0.length == l1.length) = false := by first | simpa using c3 | (simp at c3 ⊢; omega)
  obtain rfl := Option.some.inj H
  go_enter Try.func34, Try.ntmps34
  go_wp2
  go_ret
  exact ⟨rE, hB⟩

end Go.Proofs.Ytdbinpeglamnnaa.PM
