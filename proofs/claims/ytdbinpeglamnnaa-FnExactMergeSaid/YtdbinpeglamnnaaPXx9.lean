-- Written by the session's program hprint.py, over the kit's print program. Lean checks it.
import Derived.Test.YtdbinpeglamnnaaPXx0
import Derived.Test.YtdbinpeglamnnaaPXx1
import Derived.Test.YtdbinpeglamnnaaPXx2
import Derived.Test.YtdbinpeglamnnaaPXx3
import Derived.Test.YtdbinpeglamnnaaPXx5
import Derived.Test.YtdbinpeglamnnaaPXx6
import Derived.Test.YtdbinpeglamnnaaPXx7
import Derived.Test.YtdbinpeglamnnaaPXx8
namespace Go.Proofs.Ytdbinpeglamnnaa.PX
open Go.RowKit Go.Proofs.YtdbinpeglamnnaaW.PrintWords Go.Proofs.YtdbinpeglamnnaaW.PrintLast Go.Proofs.YtdbinpeglamnnaaW.PrintMore
attribute [local go_sem] max2_int min2_int max_two min_two max_three min_three max_four min_four   -- for this text's walks alone
set_option linter.unusedVariables false
set_option linter.unusedSimpArgs false
set_option maxHeartbeats 8000000
set_option maxRecDepth 100000

/-! ### laws_heldNodeS: function 23 -/
mutual
def laws_heldNodeS.l0 : Nat → List (S34) → Int → Int → Option (Int)
 | 0, _, _, _ => none
 | k + 1, x0, x1, x5 => if x5 < (x0.length : Int) then (if 0 ≤ x5 then (if ((rd_T34 x0 x5).f0) = x1 then ((laws_markText.f k (wrap64 (x1 + 1))).bind fun t401 => (if ((rd_T34 x0 x5).f1).toList = t401.toList then ((laws_markText.f k (wrap64 ((wrap64 (x1 + 1)) + 1))).bind fun t403 => (if ((rd_T34 x0 x5).f2).toList = t403.toList then ((laws_markText.f k (wrap64 ((wrap64 ((wrap64 (x1 + 1)) + 1)) + 1))).bind fun t405 => (if ((rd_T34 x0 x5).f3).toList = t405.toList then ((laws_heldDeclS.f k ((rd_T34 x0 x5).f4) (wrap64 ((wrap64 ((wrap64 ((wrap64 (x1 + 1)) + 1)) + 1)) + 1))).bind fun t407 => (if t407 < 0 then (some (-1)) else ((laws_heldAttrS.f k ((rd_T34 x0 x5).f5) t407).bind fun t409 => (if t409 < 0 then (some (-1)) else ((laws_heldNodeS.f k ((rd_T34 x0 x5).f6) t409).bind fun t411 => (if t411 < 0 then (some (-1)) else ((laws_markText.f k t411).bind fun t413 => (if ((rd_T34 x0 x5).f7).toList = t413.toList then (laws_heldNodeS.l0 k x0 (wrap64 (t411 + 1)) (wrap64 (x5 + 1))) else (some (-1)))))))))) else (some (-1)))) else (some (-1)))) else (some (-1)))) else (some (-1))) else (none)) else (some x1)
def laws_heldNodeS.f : Nat → List (S34) → Int → Option (Int)
 | 0, _, _ => none
 | k + 1, l0, a1 => laws_heldNodeS.l0 k l0 a1 0
end
def laws_heldNodeS.T7 : Bool × List (List Nat × List Nat) := (true, [([], []), ([], []), ([0, 1], [0, 1]), ([2], [2]), ([3], [3]), ([], []), ([5], [5]), ([4, 6], [4, 6])])
def laws_heldNodeS.B7 : List Nat := [0, 0, 3, 7, 15, 0, 32, 127]
theorem laws_heldNodeS.tab7 : rtab .any (opsOf Try.f23 7) = laws_heldNodeS.T7 := by kernel_rfl
theorem laws_heldNodeS.bits7 : waitsOk laws_heldNodeS.T7.2 laws_heldNodeS.B7 = true := by kernel_rfl
def laws_heldNodeS.T10 : Bool × List (List Nat × List Nat) := (true, [([], []), ([], []), ([0, 1], [0, 1]), ([2], [2]), ([3], [3]), ([], []), ([5], [5]), ([4, 6], [4, 6])])
def laws_heldNodeS.B10 : List Nat := [0, 0, 3, 7, 15, 0, 32, 127]
theorem laws_heldNodeS.tab10 : rtab .any (opsOf Try.f23 10) = laws_heldNodeS.T10 := by kernel_rfl
theorem laws_heldNodeS.bits10 : waitsOk laws_heldNodeS.T10.2 laws_heldNodeS.B10 = true := by kernel_rfl
def laws_heldNodeS.T13 : Bool × List (List Nat × List Nat) := (true, [([], []), ([], []), ([0, 1], [0, 1]), ([2], [2]), ([3], [3]), ([], []), ([5], [5]), ([4, 6], [4, 6])])
def laws_heldNodeS.B13 : List Nat := [0, 0, 3, 7, 15, 0, 32, 127]
theorem laws_heldNodeS.tab13 : rtab .any (opsOf Try.f23 13) = laws_heldNodeS.T13 := by kernel_rfl
theorem laws_heldNodeS.bits13 : waitsOk laws_heldNodeS.T13.2 laws_heldNodeS.B13 = true := by kernel_rfl
def laws_heldNodeS.T25 : Bool × List (List Nat × List Nat) := (true, [([], []), ([], []), ([0, 1], [0, 1]), ([2], [2]), ([3], [3]), ([], []), ([5], [5]), ([4, 6], [4, 6])])
def laws_heldNodeS.B25 : List Nat := [0, 0, 3, 7, 15, 0, 32, 127]
theorem laws_heldNodeS.tab25 : rtab .any (opsOf Try.f23 25) = laws_heldNodeS.T25 := by kernel_rfl
theorem laws_heldNodeS.bits25 : waitsOk laws_heldNodeS.T25.2 laws_heldNodeS.B25 = true := by kernel_rfl
theorem laws_heldNodeS.calls (k : Nat) : ∀ (A0 : Option Addr) (c0 : Nat) (l0 : List (S34)) (a1 : Int) (r : Int) (w : World) (hr0 : Kd.C k34 w A0 l0.length l0) (hc0 : l0.length ≤ c0) (h : laws_heldNodeS.f k l0 a1 = some r),
  Calls Try.prog 23 #[.slice A0 l0.length c0, .int .i64 a1] w fun e w' => e = .returned (.int .i64 r) ∧ Below w.heap.size w w' := by
 induction k using Nat.strongRecOn with
 | _ k ih =>
 intro A0 c0 l0 a1 r w hr0 hc0 h
 cases k with
 | zero => exact absurd h (by simp [laws_heldNodeS.f])
 | succ k =>
 simp only [laws_heldNodeS.f] at h
 have HR0 := Aside0.mk hr0
 have HC0 := Aside0.mk hc0
 clear hr0 hc0
 have HB := Aside0.mk (Below.refl w.heap.size w)
 have H : (laws_heldNodeS.l0 k l0 a1 0) = some r := h
 clear h
 have H' := Aside0.mk H
 clear H
 go_enter Try.func23, Try.ntmps23
 go_wp2
 go_loopg [1, 5] k (fun kq v1 v5 w' => ∃ (x1_1 : Int) (x5_1 : Int), v1 = .int .i64 x1_1 ∧ v5 = .int .i64 x5_1 ∧ Aside0 (laws_heldNodeS.l0 kq l0 x1_1 x5_1 = some r) ∧ Aside0 (kq ≤ k) ∧ Aside0 (Below w.heap.size w w'))
 case atStart => exact ⟨(a1), (0), rG, rG, H', ⟨Nat.le_refl _⟩, ⟨hB⟩⟩
 case round =>
  clear H'
  obtain ⟨x1_1, x5_1, rfl, rfl, HA, HK1, HB⟩ := hrel
  cases gk with
  | zero => exact absurd HA.out (by simp [laws_heldNodeS.l0])
  | succ k1 =>
   have H := HA.out
   clear HA
   simp only [laws_heldNodeS.l0] at H
   by_cases c3 : x5_1 < (l0.length : Int)
   ·rw [if_pos c3] at H
    have c3b0 : decide (x5_1 < (l0.length : Int)) = true := decide_eq_true c3
    clear c3
    obtain ⟨c4, H⟩ := if_som H
    have c4b0 : decide (0 ≤ x5_1) = true := decide_eq_true c4
    clear c4
    by_cases c5 : ((rd_T34 l0 x5_1).f0) = x1_1
    ·rw [if_pos c5] at H
     obtain ⟨c5b0, c5b1⟩ := eqT c5
     clear c5
     replace H := Option.bind_eq_some_iff.mp H
     obtain ⟨t401, A60, H⟩ := H
     try dsimp only at H
     have A6 := Aside0.mk A60
     clear A60
     have p399 : 0 ≤ (x5_1 : Int) := odt
     have q399 : x5_1 < (l0.length : Int) := odt
     obtain ⟨ad399, A399_4, c399_4, A399_5, c399_5, A399_6, c399_6, e399, hx399_0, hx399_1, hx399_2, hx399_3, hx399_4, hx399_5, hx399_6, hx399_7, hl399_4, hi399_4, hl399_5, hi399_5, hl399_6, hi399_6⟩ := at_T34 HR0.out x5_1 p399 q399
     cases e399
     replace hx399_0 := pw_cell_below HB.out hx399_0
     replace hx399_1 := pw_cell_below HB.out hx399_1
     replace hx399_2 := pw_cell_below HB.out hx399_2
     replace hx399_3 := pw_cell_below HB.out hx399_3
     replace hx399_4 := pw_cell_below HB.out hx399_4
     replace hx399_5 := pw_cell_below HB.out hx399_5
     replace hx399_6 := pw_cell_below HB.out hx399_6
     replace hx399_7 := pw_cell_below HB.out hx399_7
     have HR399_4 := Aside0.mk hi399_4
     have HC399_4 := Aside0.mk hl399_4
     clear hi399_4 hl399_4
     have HR399_5 := Aside0.mk hi399_5
     have HC399_5 := Aside0.mk hl399_5
     clear hi399_5 hl399_5
     have HR399_6 := Aside0.mk hi399_6
     have HC399_6 := Aside0.mk hl399_6
     clear hi399_6 hl399_6
     replace p399 := eq_true p399
     replace q399 := eq_true q399
     try go_wp2
     replace HB := Aside0.mk (below_drew1 HB.out)
     have p400 : 0 ≤ (x5_1 : Int) := odt
     have q400 : x5_1 < (l0.length : Int) := odt
     obtain ⟨ad400, A400_4, c400_4, A400_5, c400_5, A400_6, c400_6, e400, hx400_0, hx400_1, hx400_2, hx400_3, hx400_4, hx400_5, hx400_6, hx400_7, hl400_4, hi400_4, hl400_5, hi400_5, hl400_6, hi400_6⟩ := at_T34 HR0.out x5_1 p400 q400
     have hw400_7 := hx400_7
     have hw400_6 := hx400_6
     have hw400_5 := hx400_5
     have hw400_4 := hx400_4
     have hw400_3 := hx400_3
     have hw400_2 := hx400_2
     have hw400_1 := hx400_1
     have hw400_0 := hx400_0
     obtain rfl : ad399 = ad400 := (by injection e400)
     replace hx400_0 := pw_cell_below HB.out hx400_0
     replace hx400_1 := pw_cell_below HB.out hx400_1
     replace hx400_2 := pw_cell_below HB.out hx400_2
     replace hx400_3 := pw_cell_below HB.out hx400_3
     replace hx400_4 := pw_cell_below HB.out hx400_4
     replace hx400_5 := pw_cell_below HB.out hx400_5
     replace hx400_6 := pw_cell_below HB.out hx400_6
     replace hx400_7 := pw_cell_below HB.out hx400_7
     have HR400_4 := Aside0.mk hi400_4
     have HC400_4 := Aside0.mk hl400_4
     clear hi400_4 hl400_4
     have HR400_5 := Aside0.mk hi400_5
     have HC400_5 := Aside0.mk hl400_5
     clear hi400_5 hl400_5
     have HR400_6 := Aside0.mk hi400_6
     have HC400_6 := Aside0.mk hl400_6
     clear hi400_6 hl400_6
     replace p400 := eq_true p400
     replace q400 := eq_true q400
     refine start_ (n := 8) (S := fun w' => w'.cell? (ad399.add ((x5_1).toNat * 8)) = some (.int .i64 ((rd_T34 l0 x5_1).f0)) ∧ w'.cell? ⟨(ad399.add ((x5_1).toNat * 8)).block, (ad399.add ((x5_1).toNat * 8)).off + 1, none⟩ = some (.string ((rd_T34 l0 x5_1).f1)) ∧ w'.cell? ⟨(ad399.add ((x5_1).toNat * 8)).block, (ad399.add ((x5_1).toNat * 8)).off + 2, none⟩ = some (.string ((rd_T34 l0 x5_1).f2)) ∧ w'.cell? ⟨(ad399.add ((x5_1).toNat * 8)).block, (ad399.add ((x5_1).toNat * 8)).off + 3, none⟩ = some (.string ((rd_T34 l0 x5_1).f3)) ∧ w'.cell? ⟨(ad399.add ((x5_1).toNat * 8)).block, (ad399.add ((x5_1).toNat * 8)).off + 4, none⟩ = some (.slice A400_4 ((rd_T34 l0 x5_1).f4).length c400_4) ∧ w'.cell? ⟨(ad399.add ((x5_1).toNat * 8)).block, (ad399.add ((x5_1).toNat * 8)).off + 5, none⟩ = some (.slice A400_5 ((rd_T34 l0 x5_1).f5).length c400_5) ∧ w'.cell? ⟨(ad399.add ((x5_1).toNat * 8)).block, (ad399.add ((x5_1).toNat * 8)).off + 6, none⟩ = some (.slice A400_6 ((rd_T34 l0 x5_1).f6).length c400_6) ∧ w'.cell? ⟨(ad399.add ((x5_1).toNat * 8)).block, (ad399.add ((x5_1).toNat * 8)).off + 7, none⟩ = some (.string ((rd_T34 l0 x5_1).f7))) (ds := []) #[false, false, false, false, false, false, false, false] (by kernel_rfl) rfl rfl ⟨(pw_cell_below HB.out hw400_0), (pw_cell_below HB.out hw400_1), (pw_cell_below HB.out hw400_2), (pw_cell_below HB.out hw400_3), (pw_cell_below HB.out hw400_4), (pw_cell_below HB.out hw400_5), (pw_cell_below HB.out hw400_6), (pw_cell_below HB.out hw400_7)⟩ (fun hHeld => ?_); refine with_tabW laws_heldNodeS.tab7 laws_heldNodeS.bits7 (fun HT_ HW_ => ?_)
     generalize wr.drew = w7 at HB HR400_4 HR400_5 HR400_6 hx400_0 hx400_1 hx400_2 hx400_3 hx400_4 hx400_5 hx400_6 hx400_7 hHeld ⊢
     refine pU 0 21 (tf 1 7) ?_
     refine pU 1 22 (tf 2 6) ?_
     refine pU 2 23 (tf 3 5) ?_
     refine pU 3 24 (tf 4 4) ?_
     refine pU 5 26 #[true, true, true, true, false, true, false, false] ?_
     refine take_ (i := 4) (N := some 25) (v := ?_) (a' := ?_) (tf 6 2) rfl rfl (take_ofW HT_.out HW_.out (by kernel_rfl)) (fun _ _ _ h => h) (Or.inl ⟨by rfl, ?_⟩) hHeld ?_ ?_
     rotate_left
     ·rintro w' ⟨s0, s1, s2, s3, s4, s5, s6, s7⟩
      go_simp
      with_reducible rfl
     rotate_left
     ·simp only [Act.put, sT, sZ, sS, i64_w, i32_w]
      rfl
     refine one_ (i := 6) (N := some 27) (tf 7 1) rfl rfl (one_of HT_.out (by kernel_rfl)) (by decide) (fun K hK => ?_)
     refine goes_ Try.func48 (by kernel_rfl) rfl #[.int .i64 (wrap64 (x1_1 + 1))] (by rfl) rfl rfl mA ?_
     with_reducible refine (laws_markText.calls k1 (wrap64 (x1_1 + 1)) t401 _ A6.out).mono ?_
     rintro e w8 ⟨rfl, hb⟩
     refine ⟨_, rfl, ?_⟩
     replace HB := Aside0.mk (below_step hB hb)
     (try clear hb)
     (try clear hb2)
     (try clear hk)
     (try clear hi)
     refine hK.out _ _ ⟨(pw_cell_below HB.out hw400_0), (pw_cell_below HB.out hw400_1), (pw_cell_below HB.out hw400_2), (pw_cell_below HB.out hw400_3), (pw_cell_below HB.out hw400_4), (pw_cell_below HB.out hw400_5), (pw_cell_below HB.out hw400_6), (pw_cell_below HB.out hw400_7)⟩ (fun hHeld => ?_)
     clear hK K
     refine norm_ (a' := ?_) ?_ ?_
     rotate_left
     ·show Act.put _ (some 27) _ = _
      simp only [Act.put, sT, sZ, sS, i64_w, i32_w]
      rfl
     refine pU 7 28 (tf 8 0) ?_
     refine done_ (done_of HT_.out (by kernel_rfl)) ?_
     by_cases c9 : ((rd_T34 l0 x5_1).f1).toList = t401.toList
     ·rw [if_pos c9] at H
      obtain ⟨c9b0, c9b1⟩ := eqT c9
      clear c9
      (first | rw [c9b0] | (simp only [i64_w, i32_w]; rw [c9b0]) | skip)
      replace H := Option.bind_eq_some_iff.mp H
      obtain ⟨t403, A100, H⟩ := H
      try dsimp only at H
      have A10 := Aside0.mk A100
      clear A100
      try go_wp2
      replace HB := Aside0.mk (below_drew1 HB.out)
      have p402 : 0 ≤ (x5_1 : Int) := odt
      have q402 : x5_1 < (l0.length : Int) := odt
      obtain ⟨ad402, A402_4, c402_4, A402_5, c402_5, A402_6, c402_6, e402, hx402_0, hx402_1, hx402_2, hx402_3, hx402_4, hx402_5, hx402_6, hx402_7, hl402_4, hi402_4, hl402_5, hi402_5, hl402_6, hi402_6⟩ := at_T34 HR0.out x5_1 p402 q402
      have hw402_7 := hx402_7
      have hw402_6 := hx402_6
      have hw402_5 := hx402_5
      have hw402_4 := hx402_4
      have hw402_3 := hx402_3
      have hw402_2 := hx402_2
      have hw402_1 := hx402_1
      have hw402_0 := hx402_0
      obtain rfl : ad399 = ad402 := (by injection e402)
      replace hx402_0 := pw_cell_below HB.out hx402_0
      replace hx402_1 := pw_cell_below HB.out hx402_1
      replace hx402_2 := pw_cell_below HB.out hx402_2
      replace hx402_3 := pw_cell_below HB.out hx402_3
      replace hx402_4 := pw_cell_below HB.out hx402_4
      replace hx402_5 := pw_cell_below HB.out hx402_5
      replace hx402_6 := pw_cell_below HB.out hx402_6
      replace hx402_7 := pw_cell_below HB.out hx402_7
      have HR402_4 := Aside0.mk hi402_4
      have HC402_4 := Aside0.mk hl402_4
      clear hi402_4 hl402_4
      have HR402_5 := Aside0.mk hi402_5
      have HC402_5 := Aside0.mk hl402_5
      clear hi402_5 hl402_5
      have HR402_6 := Aside0.mk hi402_6
      have HC402_6 := Aside0.mk hl402_6
      clear hi402_6 hl402_6
      replace p402 := eq_true p402
      replace q402 := eq_true q402
      refine start_ (n := 8) (S := fun w' => w'.cell? (ad399.add ((x5_1).toNat * 8)) = some (.int .i64 ((rd_T34 l0 x5_1).f0)) ∧ w'.cell? ⟨(ad399.add ((x5_1).toNat * 8)).block, (ad399.add ((x5_1).toNat * 8)).off + 1, none⟩ = some (.string ((rd_T34 l0 x5_1).f1)) ∧ w'.cell? ⟨(ad399.add ((x5_1).toNat * 8)).block, (ad399.add ((x5_1).toNat * 8)).off + 2, none⟩ = some (.string ((rd_T34 l0 x5_1).f2)) ∧ w'.cell? ⟨(ad399.add ((x5_1).toNat * 8)).block, (ad399.add ((x5_1).toNat * 8)).off + 3, none⟩ = some (.string ((rd_T34 l0 x5_1).f3)) ∧ w'.cell? ⟨(ad399.add ((x5_1).toNat * 8)).block, (ad399.add ((x5_1).toNat * 8)).off + 4, none⟩ = some (.slice A402_4 ((rd_T34 l0 x5_1).f4).length c402_4) ∧ w'.cell? ⟨(ad399.add ((x5_1).toNat * 8)).block, (ad399.add ((x5_1).toNat * 8)).off + 5, none⟩ = some (.slice A402_5 ((rd_T34 l0 x5_1).f5).length c402_5) ∧ w'.cell? ⟨(ad399.add ((x5_1).toNat * 8)).block, (ad399.add ((x5_1).toNat * 8)).off + 6, none⟩ = some (.slice A402_6 ((rd_T34 l0 x5_1).f6).length c402_6) ∧ w'.cell? ⟨(ad399.add ((x5_1).toNat * 8)).block, (ad399.add ((x5_1).toNat * 8)).off + 7, none⟩ = some (.string ((rd_T34 l0 x5_1).f7))) (ds := []) #[false, false, false, false, false, false, false, false] (by kernel_rfl) rfl rfl ⟨(pw_cell_below HB.out hw402_0), (pw_cell_below HB.out hw402_1), (pw_cell_below HB.out hw402_2), (pw_cell_below HB.out hw402_3), (pw_cell_below HB.out hw402_4), (pw_cell_below HB.out hw402_5), (pw_cell_below HB.out hw402_6), (pw_cell_below HB.out hw402_7)⟩ (fun hHeld => ?_); refine with_tabW laws_heldNodeS.tab10 laws_heldNodeS.bits10 (fun HT_ HW_ => ?_)
      generalize w8.drew = w11 at HB HR402_4 HR402_5 HR402_6 hx402_0 hx402_1 hx402_2 hx402_3 hx402_4 hx402_5 hx402_6 hx402_7 hHeld ⊢
      refine pU 0 31 (tf 1 7) ?_
      refine pU 1 32 (tf 2 6) ?_
      refine pU 2 33 (tf 3 5) ?_
      refine pU 3 34 (tf 4 4) ?_
      refine pU 5 36 #[true, true, true, true, false, true, false, false] ?_
      refine take_ (i := 4) (N := some 35) (v := ?_) (a' := ?_) (tf 6 2) rfl rfl (take_ofW HT_.out HW_.out (by kernel_rfl)) (fun _ _ _ h => h) (Or.inl ⟨by rfl, ?_⟩) hHeld ?_ ?_
      rotate_left
      ·rintro w' ⟨s0, s1, s2, s3, s4, s5, s6, s7⟩
       go_simp
       with_reducible rfl
      rotate_left
      ·simp only [Act.put, sT, sZ, sS, i64_w, i32_w]
       rfl
      refine one_ (i := 6) (N := some 37) (tf 7 1) rfl rfl (one_of HT_.out (by kernel_rfl)) (by decide) (fun K hK => ?_)
      refine goes_ Try.func48 (by kernel_rfl) rfl #[.int .i64 (wrap64 ((wrap64 (x1_1 + 1)) + 1))] (by rfl) rfl rfl mA ?_
      with_reducible refine (laws_markText.calls k1 (wrap64 ((wrap64 (x1_1 + 1)) + 1)) t403 _ A10.out).mono ?_
      rintro e w12 ⟨rfl, hb⟩
      refine ⟨_, rfl, ?_⟩
      replace HB := Aside0.mk (below_step hB hb)
      (try clear hb)
      (try clear hb2)
      (try clear hk)
      (try clear hi)
      refine hK.out _ _ ⟨(pw_cell_below HB.out hw402_0), (pw_cell_below HB.out hw402_1), (pw_cell_below HB.out hw402_2), (pw_cell_below HB.out hw402_3), (pw_cell_below HB.out hw402_4), (pw_cell_below HB.out hw402_5), (pw_cell_below HB.out hw402_6), (pw_cell_below HB.out hw402_7)⟩ (fun hHeld => ?_)
      clear hK K
      refine norm_ (a' := ?_) ?_ ?_
      rotate_left
      ·show Act.put _ (some 37) _ = _
       simp only [Act.put, sT, sZ, sS, i64_w, i32_w]
       rfl
      refine pU 7 38 (tf 8 0) ?_
      refine done_ (done_of HT_.out (by kernel_rfl)) ?_
      by_cases c13 : ((rd_T34 l0 x5_1).f2).toList = t403.toList
      ·rw [if_pos c13] at H
       obtain ⟨c13b0, c13b1⟩ := eqT c13
       clear c13
       (first | rw [c13b0] | (simp only [i64_w, i32_w]; rw [c13b0]) | skip)
       replace H := Option.bind_eq_some_iff.mp H
       obtain ⟨t405, A140, H⟩ := H
       try dsimp only at H
       have A14 := Aside0.mk A140
       clear A140
       try go_wp2
       replace HB := Aside0.mk (below_drew1 HB.out)
       have p404 : 0 ≤ (x5_1 : Int) := odt
       have q404 : x5_1 < (l0.length : Int) := odt
       obtain ⟨ad404, A404_4, c404_4, A404_5, c404_5, A404_6, c404_6, e404, hx404_0, hx404_1, hx404_2, hx404_3, hx404_4, hx404_5, hx404_6, hx404_7, hl404_4, hi404_4, hl404_5, hi404_5, hl404_6, hi404_6⟩ := at_T34 HR0.out x5_1 p404 q404
       have hw404_7 := hx404_7
       have hw404_6 := hx404_6
       have hw404_5 := hx404_5
       have hw404_4 := hx404_4
       have hw404_3 := hx404_3
       have hw404_2 := hx404_2
       have hw404_1 := hx404_1
       have hw404_0 := hx404_0
       obtain rfl : ad399 = ad404 := (by injection e404)
       replace hx404_0 := pw_cell_below HB.out hx404_0
       replace hx404_1 := pw_cell_below HB.out hx404_1
       replace hx404_2 := pw_cell_below HB.out hx404_2
       replace hx404_3 := pw_cell_below HB.out hx404_3
       replace hx404_4 := pw_cell_below HB.out hx404_4
       replace hx404_5 := pw_cell_below HB.out hx404_5
       replace hx404_6 := pw_cell_below HB.out hx404_6
       replace hx404_7 := pw_cell_below HB.out hx404_7
       have HR404_4 := Aside0.mk hi404_4
       have HC404_4 := Aside0.mk hl404_4
       clear hi404_4 hl404_4
       have HR404_5 := Aside0.mk hi404_5
       have HC404_5 := Aside0.mk hl404_5
       clear hi404_5 hl404_5
       have HR404_6 := Aside0.mk hi404_6
       have HC404_6 := Aside0.mk hl404_6
       clear hi404_6 hl404_6
       replace p404 := eq_true p404
       replace q404 := eq_true q404
       refine start_ (n := 8) (S := fun w' => w'.cell? (ad399.add ((x5_1).toNat * 8)) = some (.int .i64 ((rd_T34 l0 x5_1).f0)) ∧ w'.cell? ⟨(ad399.add ((x5_1).toNat * 8)).block, (ad399.add ((x5_1).toNat * 8)).off + 1, none⟩ = some (.string ((rd_T34 l0 x5_1).f1)) ∧ w'.cell? ⟨(ad399.add ((x5_1).toNat * 8)).block, (ad399.add ((x5_1).toNat * 8)).off + 2, none⟩ = some (.string ((rd_T34 l0 x5_1).f2)) ∧ w'.cell? ⟨(ad399.add ((x5_1).toNat * 8)).block, (ad399.add ((x5_1).toNat * 8)).off + 3, none⟩ = some (.string ((rd_T34 l0 x5_1).f3)) ∧ w'.cell? ⟨(ad399.add ((x5_1).toNat * 8)).block, (ad399.add ((x5_1).toNat * 8)).off + 4, none⟩ = some (.slice A404_4 ((rd_T34 l0 x5_1).f4).length c404_4) ∧ w'.cell? ⟨(ad399.add ((x5_1).toNat * 8)).block, (ad399.add ((x5_1).toNat * 8)).off + 5, none⟩ = some (.slice A404_5 ((rd_T34 l0 x5_1).f5).length c404_5) ∧ w'.cell? ⟨(ad399.add ((x5_1).toNat * 8)).block, (ad399.add ((x5_1).toNat * 8)).off + 6, none⟩ = some (.slice A404_6 ((rd_T34 l0 x5_1).f6).length c404_6) ∧ w'.cell? ⟨(ad399.add ((x5_1).toNat * 8)).block, (ad399.add ((x5_1).toNat * 8)).off + 7, none⟩ = some (.string ((rd_T34 l0 x5_1).f7))) (ds := []) #[false, false, false, false, false, false, false, false] (by kernel_rfl) rfl rfl ⟨(pw_cell_below HB.out hw404_0), (pw_cell_below HB.out hw404_1), (pw_cell_below HB.out hw404_2), (pw_cell_below HB.out hw404_3), (pw_cell_below HB.out hw404_4), (pw_cell_below HB.out hw404_5), (pw_cell_below HB.out hw404_6), (pw_cell_below HB.out hw404_7)⟩ (fun hHeld => ?_); refine with_tabW laws_heldNodeS.tab13 laws_heldNodeS.bits13 (fun HT_ HW_ => ?_)
       generalize w12.drew = w15 at HB HR404_4 HR404_5 HR404_6 hx404_0 hx404_1 hx404_2 hx404_3 hx404_4 hx404_5 hx404_6 hx404_7 hHeld ⊢
       refine pU 0 41 (tf 1 7) ?_
       refine pU 1 42 (tf 2 6) ?_
       refine pU 2 43 (tf 3 5) ?_
       refine pU 3 44 (tf 4 4) ?_
       refine pU 5 46 #[true, true, true, true, false, true, false, false] ?_
       refine take_ (i := 4) (N := some 45) (v := ?_) (a' := ?_) (tf 6 2) rfl rfl (take_ofW HT_.out HW_.out (by kernel_rfl)) (fun _ _ _ h => h) (Or.inl ⟨by rfl, ?_⟩) hHeld ?_ ?_
       rotate_left
       ·rintro w' ⟨s0, s1, s2, s3, s4, s5, s6, s7⟩
        go_simp
        with_reducible rfl
       rotate_left
       ·simp only [Act.put, sT, sZ, sS, i64_w, i32_w]
        rfl
       refine one_ (i := 6) (N := some 47) (tf 7 1) rfl rfl (one_of HT_.out (by kernel_rfl)) (by decide) (fun K hK => ?_)
       refine goes_ Try.func48 (by kernel_rfl) rfl #[.int .i64 (wrap64 ((wrap64 ((wrap64 (x1_1 + 1)) + 1)) + 1))] (by rfl) rfl rfl mA ?_
       with_reducible refine (laws_markText.calls k1 (wrap64 ((wrap64 ((wrap64 (x1_1 + 1)) + 1)) + 1)) t405 _ A14.out).mono ?_
       rintro e w16 ⟨rfl, hb⟩
       refine ⟨_, rfl, ?_⟩
       replace HB := Aside0.mk (below_step hB hb)
       (try clear hb)
       (try clear hb2)
       (try clear hk)
       (try clear hi)
       refine hK.out _ _ ⟨(pw_cell_below HB.out hw404_0), (pw_cell_below HB.out hw404_1), (pw_cell_below HB.out hw404_2), (pw_cell_below HB.out hw404_3), (pw_cell_below HB.out hw404_4), (pw_cell_below HB.out hw404_5), (pw_cell_below HB.out hw404_6), (pw_cell_below HB.out hw404_7)⟩ (fun hHeld => ?_)
       clear hK K
       refine norm_ (a' := ?_) ?_ ?_
       rotate_left
       ·show Act.put _ (some 47) _ = _
        simp only [Act.put, sT, sZ, sS, i64_w, i32_w]
        rfl
       refine pU 7 48 (tf 8 0) ?_
       refine done_ (done_of HT_.out (by kernel_rfl)) ?_
       by_cases c17 : ((rd_T34 l0 x5_1).f3).toList = t405.toList
       ·rw [if_pos c17] at H
        obtain ⟨c17b0, c17b1⟩ := eqT c17
        clear c17
        (first | rw [c17b0] | (simp only [i64_w, i32_w]; rw [c17b0]) | skip)
        replace H := Option.bind_eq_some_iff.mp H
        obtain ⟨t407, A180, H⟩ := H
        try dsimp only at H
        have A18 := Aside0.mk A180
        clear A180
        have p406 : 0 ≤ (x5_1 : Int) := odt
        have q406 : x5_1 < (l0.length : Int) := odt
        obtain ⟨ad406, A406_4, c406_4, A406_5, c406_5, A406_6, c406_6, e406, hx406_0, hx406_1, hx406_2, hx406_3, hx406_4, hx406_5, hx406_6, hx406_7, hl406_4, hi406_4, hl406_5, hi406_5, hl406_6, hi406_6⟩ := at_T34 HR0.out x5_1 p406 q406
        obtain rfl : ad399 = ad406 := (by injection e406)
        replace hx406_0 := pw_cell_below HB.out hx406_0
        replace hx406_1 := pw_cell_below HB.out hx406_1
        replace hx406_2 := pw_cell_below HB.out hx406_2
        replace hx406_3 := pw_cell_below HB.out hx406_3
        replace hx406_4 := pw_cell_below HB.out hx406_4
        replace hx406_5 := pw_cell_below HB.out hx406_5
        replace hx406_6 := pw_cell_below HB.out hx406_6
        replace hx406_7 := pw_cell_below HB.out hx406_7
        have HR406_4 := Aside0.mk hi406_4
        have HC406_4 := Aside0.mk hl406_4
        clear hi406_4 hl406_4
        have HR406_5 := Aside0.mk hi406_5
        have HC406_5 := Aside0.mk hl406_5
        clear hi406_5 hl406_5
        have HR406_6 := Aside0.mk hi406_6
        have HC406_6 := Aside0.mk hl406_6
        clear hi406_6 hl406_6
        replace p406 := eq_true p406
        replace q406 := eq_true q406
        try clear hHeld
        go_wp2_with (first | ((with_reducible refine gate_callee (f := 49) rfl ?_); refine goesL_ (some 57) rfl rfl Try.func49 (by kernel_rfl) rfl #[.slice A406_4 ((rd_T34 l0 x5_1).f4).length c406_4, .int .i64 (wrap64 ((wrap64 ((wrap64 ((wrap64 (x1_1 + 1)) + 1)) + 1)) + 1))] rfl mA ?_; (with_reducible refine (laws_heldDeclS.calls k1 _ _ ((rd_T34 l0 x5_1).f4) (wrap64 ((wrap64 ((wrap64 ((wrap64 (x1_1 + 1)) + 1)) + 1)) + 1)) t407 _ ?side1 ?side2 A18.out).mono ?_); (case side1 => repeat (first | exact (Kd.C_below HR406_4.out HB.out) | (with_reducible refine Kd.C_alloc ?_ _) | (with_reducible refine Kd.C_drewN ?_ _) | (with_reducible refine Kd.C_drew ?_))); (case side2 => exact HC406_4.out); rintro e w19 ⟨rfl, hb⟩; refine ⟨_, rfl, ?_⟩; replace HB := Aside0.mk (below_step hB hb); (try clear hb); (try clear hb2); (try clear hk); (try clear hi); refine halt_ ?_; intro q_ hq_))
        obtain ⟨rfl⟩ := hq_
        by_cases c20 : t407 < 0
        ·rw [if_pos c20] at H
         have c20b0 : decide (t407 < 0) = true := decide_eq_true c20
         clear c20
         obtain rfl := Option.some.inj H
         go_wp2
         go_ret
         exact ⟨rE, hB⟩
        ·rw [if_neg c20] at H
         have c20b0 : decide (t407 < 0) = false := decide_eq_false c20
         clear c20
         replace H := Option.bind_eq_some_iff.mp H
         obtain ⟨t409, A210, H⟩ := H
         try dsimp only at H
         have A21 := Aside0.mk A210
         clear A210
         have p408 : 0 ≤ (x5_1 : Int) := odt
         have q408 : x5_1 < (l0.length : Int) := odt
         obtain ⟨ad408, A408_4, c408_4, A408_5, c408_5, A408_6, c408_6, e408, hx408_0, hx408_1, hx408_2, hx408_3, hx408_4, hx408_5, hx408_6, hx408_7, hl408_4, hi408_4, hl408_5, hi408_5, hl408_6, hi408_6⟩ := at_T34 HR0.out x5_1 p408 q408
         obtain rfl : ad399 = ad408 := (by injection e408)
         replace hx408_0 := pw_cell_below HB.out hx408_0
         replace hx408_1 := pw_cell_below HB.out hx408_1
         replace hx408_2 := pw_cell_below HB.out hx408_2
         replace hx408_3 := pw_cell_below HB.out hx408_3
         replace hx408_4 := pw_cell_below HB.out hx408_4
         replace hx408_5 := pw_cell_below HB.out hx408_5
         replace hx408_6 := pw_cell_below HB.out hx408_6
         replace hx408_7 := pw_cell_below HB.out hx408_7
         have HR408_4 := Aside0.mk hi408_4
         have HC408_4 := Aside0.mk hl408_4
         clear hi408_4 hl408_4
         have HR408_5 := Aside0.mk hi408_5
         have HC408_5 := Aside0.mk hl408_5
         clear hi408_5 hl408_5
         have HR408_6 := Aside0.mk hi408_6
         have HC408_6 := Aside0.mk hl408_6
         clear hi408_6 hl408_6
         replace p408 := eq_true p408
         replace q408 := eq_true q408
         go_wp2_with (first | ((with_reducible refine gate_callee (f := 50) rfl ?_); refine goesL_ (some 66) rfl rfl Try.func50 (by kernel_rfl) rfl #[.slice A408_5 ((rd_T34 l0 x5_1).f5).length c408_5, .int .i64 t407] rfl mA ?_; (with_reducible refine (laws_heldAttrS.calls k1 _ _ ((rd_T34 l0 x5_1).f5) t407 t409 _ ?side1 ?side2 A21.out).mono ?_); (case side1 => repeat (first | exact (Kd.C_below HR408_5.out HB.out) | (with_reducible refine Kd.C_alloc ?_ _) | (with_reducible refine Kd.C_drewN ?_ _) | (with_reducible refine Kd.C_drew ?_))); (case side2 => exact HC408_5.out); rintro e w22 ⟨rfl, hb⟩; refine ⟨_, rfl, ?_⟩; replace HB := Aside0.mk (below_step hB hb); (try clear hb); (try clear hb2); (try clear hk); (try clear hi); refine halt_ ?_; intro q_ hq_))
         obtain ⟨rfl⟩ := hq_
         by_cases c23 : t409 < 0
         ·rw [if_pos c23] at H
          have c23b0 : decide (t409 < 0) = true := decide_eq_true c23
          clear c23
          obtain rfl := Option.some.inj H
          go_wp2
          go_ret
          exact ⟨rE, hB⟩
         ·rw [if_neg c23] at H
          have c23b0 : decide (t409 < 0) = false := decide_eq_false c23
          clear c23
          replace H := Option.bind_eq_some_iff.mp H
          obtain ⟨t411, A240, H⟩ := H
          try dsimp only at H
          have A24 := Aside0.mk A240
          clear A240
          have p410 : 0 ≤ (x5_1 : Int) := odt
          have q410 : x5_1 < (l0.length : Int) := odt
          obtain ⟨ad410, A410_4, c410_4, A410_5, c410_5, A410_6, c410_6, e410, hx410_0, hx410_1, hx410_2, hx410_3, hx410_4, hx410_5, hx410_6, hx410_7, hl410_4, hi410_4, hl410_5, hi410_5, hl410_6, hi410_6⟩ := at_T34 HR0.out x5_1 p410 q410
          obtain rfl : ad399 = ad410 := (by injection e410)
          replace hx410_0 := pw_cell_below HB.out hx410_0
          replace hx410_1 := pw_cell_below HB.out hx410_1
          replace hx410_2 := pw_cell_below HB.out hx410_2
          replace hx410_3 := pw_cell_below HB.out hx410_3
          replace hx410_4 := pw_cell_below HB.out hx410_4
          replace hx410_5 := pw_cell_below HB.out hx410_5
          replace hx410_6 := pw_cell_below HB.out hx410_6
          replace hx410_7 := pw_cell_below HB.out hx410_7
          have HR410_4 := Aside0.mk hi410_4
          have HC410_4 := Aside0.mk hl410_4
          clear hi410_4 hl410_4
          have HR410_5 := Aside0.mk hi410_5
          have HC410_5 := Aside0.mk hl410_5
          clear hi410_5 hl410_5
          have HR410_6 := Aside0.mk hi410_6
          have HC410_6 := Aside0.mk hl410_6
          clear hi410_6 hl410_6
          replace p410 := eq_true p410
          replace q410 := eq_true q410
          go_wp2_with (first | ((with_reducible refine gate_callee (f := 23) rfl ?_); refine goesL_ (some 75) rfl rfl Try.func23 (by kernel_rfl) rfl #[.slice A410_6 ((rd_T34 l0 x5_1).f6).length c410_6, .int .i64 t409] rfl mA ?_; (with_reducible refine (ih k1 (by have := HK1.out; omega) _ _ ((rd_T34 l0 x5_1).f6) t409 t411 _ ?side1 ?side2 A24.out).mono ?_); (case side1 => repeat (first | exact (Kd.C_below HR410_6.out HB.out) | (with_reducible refine Kd.C_alloc ?_ _) | (with_reducible refine Kd.C_drewN ?_ _) | (with_reducible refine Kd.C_drew ?_))); (case side2 => exact HC410_6.out); rintro e w25 ⟨rfl, hb⟩; refine ⟨_, rfl, ?_⟩; replace HB := Aside0.mk (below_step hB hb); (try clear hb); (try clear hb2); (try clear hk); (try clear hi); refine halt_ ?_; intro q_ hq_))
          obtain ⟨rfl⟩ := hq_
          by_cases c26 : t411 < 0
          ·rw [if_pos c26] at H
           have c26b0 : decide (t411 < 0) = true := decide_eq_true c26
           clear c26
           obtain rfl := Option.some.inj H
           go_wp2
           go_ret
           exact ⟨rE, hB⟩
          ·rw [if_neg c26] at H
           have c26b0 : decide (t411 < 0) = false := decide_eq_false c26
           clear c26
           replace H := Option.bind_eq_some_iff.mp H
           obtain ⟨t413, A270, H⟩ := H
           try dsimp only at H
           have A27 := Aside0.mk A270
           clear A270
           try go_wp2
           replace HB := Aside0.mk (below_drew1 HB.out)
           have p412 : 0 ≤ (x5_1 : Int) := odt
           have q412 : x5_1 < (l0.length : Int) := odt
           obtain ⟨ad412, A412_4, c412_4, A412_5, c412_5, A412_6, c412_6, e412, hx412_0, hx412_1, hx412_2, hx412_3, hx412_4, hx412_5, hx412_6, hx412_7, hl412_4, hi412_4, hl412_5, hi412_5, hl412_6, hi412_6⟩ := at_T34 HR0.out x5_1 p412 q412
           have hw412_7 := hx412_7
           have hw412_6 := hx412_6
           have hw412_5 := hx412_5
           have hw412_4 := hx412_4
           have hw412_3 := hx412_3
           have hw412_2 := hx412_2
           have hw412_1 := hx412_1
           have hw412_0 := hx412_0
           obtain rfl : ad399 = ad412 := (by injection e412)
           replace hx412_0 := pw_cell_below HB.out hx412_0
           replace hx412_1 := pw_cell_below HB.out hx412_1
           replace hx412_2 := pw_cell_below HB.out hx412_2
           replace hx412_3 := pw_cell_below HB.out hx412_3
           replace hx412_4 := pw_cell_below HB.out hx412_4
           replace hx412_5 := pw_cell_below HB.out hx412_5
           replace hx412_6 := pw_cell_below HB.out hx412_6
           replace hx412_7 := pw_cell_below HB.out hx412_7
           have HR412_4 := Aside0.mk hi412_4
           have HC412_4 := Aside0.mk hl412_4
           clear hi412_4 hl412_4
           have HR412_5 := Aside0.mk hi412_5
           have HC412_5 := Aside0.mk hl412_5
           clear hi412_5 hl412_5
           have HR412_6 := Aside0.mk hi412_6
           have HC412_6 := Aside0.mk hl412_6
           clear hi412_6 hl412_6
           replace p412 := eq_true p412
           replace q412 := eq_true q412
           refine start_ (n := 8) (S := fun w' => w'.cell? (ad399.add ((x5_1).toNat * 8)) = some (.int .i64 ((rd_T34 l0 x5_1).f0)) ∧ w'.cell? ⟨(ad399.add ((x5_1).toNat * 8)).block, (ad399.add ((x5_1).toNat * 8)).off + 1, none⟩ = some (.string ((rd_T34 l0 x5_1).f1)) ∧ w'.cell? ⟨(ad399.add ((x5_1).toNat * 8)).block, (ad399.add ((x5_1).toNat * 8)).off + 2, none⟩ = some (.string ((rd_T34 l0 x5_1).f2)) ∧ w'.cell? ⟨(ad399.add ((x5_1).toNat * 8)).block, (ad399.add ((x5_1).toNat * 8)).off + 3, none⟩ = some (.string ((rd_T34 l0 x5_1).f3)) ∧ w'.cell? ⟨(ad399.add ((x5_1).toNat * 8)).block, (ad399.add ((x5_1).toNat * 8)).off + 4, none⟩ = some (.slice A412_4 ((rd_T34 l0 x5_1).f4).length c412_4) ∧ w'.cell? ⟨(ad399.add ((x5_1).toNat * 8)).block, (ad399.add ((x5_1).toNat * 8)).off + 5, none⟩ = some (.slice A412_5 ((rd_T34 l0 x5_1).f5).length c412_5) ∧ w'.cell? ⟨(ad399.add ((x5_1).toNat * 8)).block, (ad399.add ((x5_1).toNat * 8)).off + 6, none⟩ = some (.slice A412_6 ((rd_T34 l0 x5_1).f6).length c412_6) ∧ w'.cell? ⟨(ad399.add ((x5_1).toNat * 8)).block, (ad399.add ((x5_1).toNat * 8)).off + 7, none⟩ = some (.string ((rd_T34 l0 x5_1).f7))) (ds := []) #[false, false, false, false, false, false, false, false] (by kernel_rfl) rfl rfl ⟨(pw_cell_below HB.out hw412_0), (pw_cell_below HB.out hw412_1), (pw_cell_below HB.out hw412_2), (pw_cell_below HB.out hw412_3), (pw_cell_below HB.out hw412_4), (pw_cell_below HB.out hw412_5), (pw_cell_below HB.out hw412_6), (pw_cell_below HB.out hw412_7)⟩ (fun hHeld => ?_); refine with_tabW laws_heldNodeS.tab25 laws_heldNodeS.bits25 (fun HT_ HW_ => ?_)
           generalize w25.drew = w28 at HB HR412_4 HR412_5 HR412_6 hx412_0 hx412_1 hx412_2 hx412_3 hx412_4 hx412_5 hx412_6 hx412_7 hHeld ⊢
           refine pU 0 78 (tf 1 7) ?_
           refine pU 1 79 (tf 2 6) ?_
           refine pU 2 80 (tf 3 5) ?_
           refine pU 3 81 (tf 4 4) ?_
           refine pU 5 83 #[true, true, true, true, false, true, false, false] ?_
           refine take_ (i := 4) (N := some 82) (v := ?_) (a' := ?_) (tf 6 2) rfl rfl (take_ofW HT_.out HW_.out (by kernel_rfl)) (fun _ _ _ h => h) (Or.inl ⟨by rfl, ?_⟩) hHeld ?_ ?_
           rotate_left
           ·rintro w' ⟨s0, s1, s2, s3, s4, s5, s6, s7⟩
            go_simp
            with_reducible rfl
           rotate_left
           ·simp only [Act.put, sT, sZ, sS, i64_w, i32_w]
            rfl
           refine one_ (i := 6) (N := some 84) (tf 7 1) rfl rfl (one_of HT_.out (by kernel_rfl)) (by decide) (fun K hK => ?_)
           refine goes_ Try.func48 (by kernel_rfl) rfl #[.int .i64 t411] (by rfl) rfl rfl mA ?_
           with_reducible refine (laws_markText.calls k1 t411 t413 _ A27.out).mono ?_
           rintro e w29 ⟨rfl, hb⟩
           refine ⟨_, rfl, ?_⟩
           replace HB := Aside0.mk (below_step hB hb)
           (try clear hb)
           (try clear hb2)
           (try clear hk)
           (try clear hi)
           refine hK.out _ _ ⟨(pw_cell_below HB.out hw412_0), (pw_cell_below HB.out hw412_1), (pw_cell_below HB.out hw412_2), (pw_cell_below HB.out hw412_3), (pw_cell_below HB.out hw412_4), (pw_cell_below HB.out hw412_5), (pw_cell_below HB.out hw412_6), (pw_cell_below HB.out hw412_7)⟩ (fun hHeld => ?_)
           clear hK K
           refine norm_ (a' := ?_) ?_ ?_
           rotate_left
           ·show Act.put _ (some 84) _ = _
            simp only [Act.put, sT, sZ, sS, i64_w, i32_w]
            rfl
           refine pU 7 85 (tf 8 0) ?_
           refine done_ (done_of HT_.out (by kernel_rfl)) ?_
           by_cases c30 : ((rd_T34 l0 x5_1).f7).toList = t413.toList
           ·rw [if_pos c30] at H
            obtain ⟨c30b0, c30b1⟩ := eqT c30
            clear c30
            (first | rw [c30b0] | (simp only [i64_w, i32_w]; rw [c30b0]) | skip)
            have H' := Aside0.mk H
            clear H
            go_wp2
            go_roundg k1
            case measure => have := HK1.out; omega
            case rel => exact ⟨(wrap64 (t411 + 1)), (wrap64 (x5_1 + 1)), rG, rG, H', ⟨by have := HK1.out; omega⟩, ⟨hB⟩⟩
           ·rw [if_neg c30] at H
            obtain ⟨c30b0, c30b1⟩ := eqF c30
            (first | rw [c30b0] | (simp only [i64_w, i32_w]; rw [c30b0]) | skip)
            obtain rfl := Option.some.inj H
            go_wp2
            go_ret
            exact ⟨rE, hB⟩
       ·rw [if_neg c17] at H
        obtain ⟨c17b0, c17b1⟩ := eqF c17
        (first | rw [c17b0] | (simp only [i64_w, i32_w]; rw [c17b0]) | skip)
        obtain rfl := Option.some.inj H
        go_wp2
        go_ret
        exact ⟨rE, hB⟩
      ·rw [if_neg c13] at H
       obtain ⟨c13b0, c13b1⟩ := eqF c13
       (first | rw [c13b0] | (simp only [i64_w, i32_w]; rw [c13b0]) | skip)
       obtain rfl := Option.some.inj H
       go_wp2
       go_ret
       exact ⟨rE, hB⟩
     ·rw [if_neg c9] at H
      obtain ⟨c9b0, c9b1⟩ := eqF c9
      (first | rw [c9b0] | (simp only [i64_w, i32_w]; rw [c9b0]) | skip)
      obtain rfl := Option.some.inj H
      go_wp2
      go_ret
      exact ⟨rE, hB⟩
    ·rw [if_neg c5] at H
     obtain ⟨c5b0, c5b1⟩ := eqF c5
     obtain rfl := Option.some.inj H
     have p399 : 0 ≤ (x5_1 : Int) := odt
     have q399 : x5_1 < (l0.length : Int) := odt
     obtain ⟨ad399, A399_4, c399_4, A399_5, c399_5, A399_6, c399_6, e399, hx399_0, hx399_1, hx399_2, hx399_3, hx399_4, hx399_5, hx399_6, hx399_7, hl399_4, hi399_4, hl399_5, hi399_5, hl399_6, hi399_6⟩ := at_T34 HR0.out x5_1 p399 q399
     cases e399
     replace hx399_0 := pw_cell_below HB.out hx399_0
     replace hx399_1 := pw_cell_below HB.out hx399_1
     replace hx399_2 := pw_cell_below HB.out hx399_2
     replace hx399_3 := pw_cell_below HB.out hx399_3
     replace hx399_4 := pw_cell_below HB.out hx399_4
     replace hx399_5 := pw_cell_below HB.out hx399_5
     replace hx399_6 := pw_cell_below HB.out hx399_6
     replace hx399_7 := pw_cell_below HB.out hx399_7
     have HR399_4 := Aside0.mk hi399_4
     have HC399_4 := Aside0.mk hl399_4
     clear hi399_4 hl399_4
     have HR399_5 := Aside0.mk hi399_5
     have HC399_5 := Aside0.mk hl399_5
     clear hi399_5 hl399_5
     have HR399_6 := Aside0.mk hi399_6
     have HC399_6 := Aside0.mk hl399_6
     clear hi399_6 hl399_6
     replace p399 := eq_true p399
     replace q399 := eq_true q399
     go_wp2
     go_ret
     exact ⟨rE, hB⟩
   ·rw [if_neg c3] at H
    have c3b0 : decide (x5_1 < (l0.length : Int)) = false := decide_eq_false c3
    clear c3
    obtain rfl := Option.some.inj H
    go_wp2
    go_ret
    exact ⟨rE, hB⟩

/-! ### laws_FnExactMerge: function 4 -/
def laws_FnExactMerge.f (k : Nat) (l0 : List S26) : Option Bool :=
  (laws_szNodeS.f k l0 1048576).bind fun t => if t < 0 then some true else (laws_toNodeS.f k l0).bind fun x => (spec_Merge.f k x).bind fun v => (impl_Merge.f k x).bind fun g => (laws_eqNodeS.f k g v).bind fun b => (laws_eqNodeS.f k x x).bind fun c => (laws_markNodeS.f k x 1).bind fun p => (laws_markNodeS.f k g 1).bind fun q => (laws_heldNodeS.f k q.2 1).bind fun h => if b = true ∧ c = true ∧ ¬ p.1 < 0 ∧ ¬ h < 0 ∧ h = q.1 then some true else none
theorem laws_FnExactMerge.held (k : Nat) (A : Option Addr) (c : Nat) (g q : List S34) (a r : Int) (w : World) (hl : g.length = q.length) (hr : Kd.C k34 w A q.length q) (hc : q.length ≤ c) (h : laws_heldNodeS.f k q a = some r) :
    Calls Try.prog 23 #[.slice A g.length c, .int .i64 a] w fun e w' => e = .returned (.int .i64 r) ∧ Below w.heap.size w w' := by
  rw [hl]; exact laws_heldNodeS.calls k A c q a r w hr hc h
theorem laws_FnExactMerge.calls (k : Nat) (A0 : Option Addr) (c0 : Nat) (l0 : List (S26)) (r_ : Bool) (w : World) (hr0 : Kd.C k26 w A0 l0.length l0) (hc0 : l0.length ≤ c0) (h : laws_FnExactMerge.f k l0 = some true) :
    Calls Try.prog 4 #[.slice A0 l0.length c0] w fun e w' => e = .returned (.bool true) ∧ Below w.heap.size w w' := by
  have HR0 := Aside0.mk hr0
  have HC0 := Aside0.mk hc0
  have HB := Aside0.mk (Below.refl w.heap.size w)
  clear hr0 hc0
  unfold laws_FnExactMerge.f at h
  obtain ⟨t, ht, h⟩ := Option.bind_eq_some_iff.1 h
  have T0 := Aside0.mk ht
  clear ht
  by_cases hn : t < 0
  · have hd := decide_eq_true hn
    clear h hn
    go_enter Try.func4, Try.ntmps4
    go_wp2_with (first | ((with_reducible refine gate_callee (f := 17) rfl ?_); refine goesL_ (some 13) rfl rfl Try.func17 (by kernel_rfl) rfl #[.slice A0 l0.length c0, .int .i64 1048576] rfl mA ?_; (with_reducible refine (laws_szNodeS.calls k A0 c0 l0 1048576 t _ (Kd.C_below HR0.out HB.out) HC0.out T0.out).mono ?_); rintro e w1 ⟨rfl, hb⟩; refine ⟨_, rfl, ?_⟩; replace HB := Aside0.mk (below_step HB.out hb); clear hb))
    go_ret
    exact ⟨rfl, HB.out⟩
  rw [if_neg hn] at h
  have hd := decide_eq_false hn
  clear hn
  obtain ⟨x, h1_, h⟩ := Option.bind_eq_some_iff.1 h
  obtain ⟨v, h2_, h⟩ := Option.bind_eq_some_iff.1 h
  obtain ⟨g, h3_, h⟩ := Option.bind_eq_some_iff.1 h
  obtain ⟨b, h4_, h⟩ := Option.bind_eq_some_iff.1 h
  obtain ⟨c, h5_, h⟩ := Option.bind_eq_some_iff.1 h
  obtain ⟨⟨p1, p2⟩, h6_, h⟩ := Option.bind_eq_some_iff.1 h
  obtain ⟨⟨q1, q2⟩, h7_, h⟩ := Option.bind_eq_some_iff.1 h
  obtain ⟨h1, h8_, h⟩ := Option.bind_eq_some_iff.1 h
  dsimp only at h8_ h
  obtain ⟨⟨rfl, rfl, e1, e2, rfl⟩, -⟩ := if_som h
  have hp := decide_eq_false e1
  have hq := decide_eq_false e2
  have hne : (h1 != h1) = false := by simp
  clear h e1 e2
  have T1 := Aside0.mk h1_
  have T2 := Aside0.mk h2_
  have T3 := Aside0.mk h3_
  have T4 := Aside0.mk h4_
  have T5 := Aside0.mk h5_
  have T6 := Aside0.mk h6_
  have T7 := Aside0.mk h7_
  have T8 := Aside0.mk h8_
  clear h1_ h2_ h3_ h4_ h5_ h6_ h7_ h8_
  go_enter Try.func4, Try.ntmps4
  go_wp2_with (first
    | ((with_reducible refine gate_callee (f := 17) rfl ?_); refine goesL_ (some 13) rfl rfl Try.func17 (by kernel_rfl) rfl #[.slice A0 l0.length c0, .int .i64 1048576] rfl mA ?_; (with_reducible refine (laws_szNodeS.calls k A0 c0 l0 1048576 t _ (Kd.C_below HR0.out HB.out) HC0.out T0.out).mono ?_); rintro e w1 ⟨rfl, hb⟩; refine ⟨_, rfl, ?_⟩; replace HB := Aside0.mk (below_step HB.out hb); clear hb)
    | ((with_reducible refine gate_callee (f := 19) rfl ?_); refine goesL_ (some 17) rfl rfl Try.func19 (by kernel_rfl) rfl #[.slice A0 l0.length c0] rfl mA ?_; (with_reducible refine (laws_toNodeS.callsD k A0 c0 l0 x _ (Kd.C_below HR0.out HB.out) HC0.out T1.out).mono ?_); rintro e w2 ⟨v1, rfl, ho, hb⟩; refine ⟨_, rfl, ?_⟩; obtain ⟨A1, c1, e1⟩ := Kd.S_slice ho; subst e1; have HX := Aside0.mk ho; replace HB := Aside0.mk (below_step HB.out hb); clear ho hb)
    | ((with_reducible refine gate_callee (f := 18) rfl ?_); refine goesL_ (some 18) rfl rfl Try.func18 (by kernel_rfl) rfl #[.slice A1 x.length c1] rfl mA ?_; (with_reducible refine (spec_Merge.calls k A1 c1 x v _ (kD_C (Kd.S_reads' HX.out).2.2) (Kd.S_reads' HX.out).2.1 T2.out).mono ?_); rintro e w3 ⟨v2, rfl, ho, hb⟩; refine ⟨_, rfl, ?_⟩; obtain ⟨A2, c2, e2⟩ := Kd.R_slice ho; subst e2; have HW := Aside0.mk (Kd.R_lower ho (below_size HB.out)); replace HB := Aside0.mk (below_step HB.out hb); clear ho hb; clear HX)
    | ((with_reducible refine gate_callee (f := 19) rfl ?_); refine goesL_ (some 20) rfl rfl Try.func19 (by kernel_rfl) rfl #[.slice A0 l0.length c0] rfl mA ?_; (with_reducible refine (laws_toNodeS.callsD k A0 c0 l0 x _ (Kd.C_below HR0.out HB.out) HC0.out T1.out).mono ?_); rintro e w4 ⟨v3, rfl, ho, hb⟩; refine ⟨_, rfl, ?_⟩; obtain ⟨A3, c3, e3⟩ := Kd.S_slice ho; subst e3; obtain ⟨N, M, hN0, hNM, hM, hW, hX⟩ : ∃ N M : Nat, w.heap.size ≤ N ∧ N ≤ M ∧ M ≤ w4.heap.size ∧ Kd.R k34 34 w4 w.heap.size (fun k_ => k_ < N) (.slice A2 v.length c2) v ∧ Kd.S kD 34 w4 w.heap.size (fun k_ => N ≤ k_ ∧ k_ < M) (.slice A3 x.length c3) x := ⟨_, _, below_size HB.out, hb.size, Nat.le_refl _, Kd.R_mono (Kd.R_old HW.out hb) (fun _ h_ => h_.2), Kd.S_lower (Kd.S_mono (Kd.S_bound ho) (fun _ h_ => ⟨h_.2.1, h_.2.2.1⟩)) (below_size HB.out)⟩; replace HW := Aside0.mk hW; have HX := Aside0.mk hX; have HM := Aside0.mk hM; have HNM := Aside0.mk (And.intro hN0 hNM); replace HB := Aside0.mk (below_step HB.out hb); clear ho hb hW hX hM hN0 hNM)
    | ((with_reducible refine gate_callee (f := 20) rfl ?_); refine goesL_ (some 22) rfl rfl Try.func20 (by kernel_rfl) rfl #[.slice A3 x.length c3] rfl mA ?_; (with_reducible refine (impl_Merge.callsD k A3 c3 x g _ (kD_C (Kd.S_reads' HX.out).2.2) (Kd.S_reads' HX.out).2.1 T3.out).mono ?_); rintro e w5 ⟨v4, rfl, ho, hb⟩; refine ⟨_, rfl, ?_⟩; obtain ⟨A4, c4, e4⟩ := Kd.S_slice ho; subst e4; have HG := Aside0.mk (show Kd.S kD 34 w5 w.heap.size (fun k_ => M ≤ k_) (.slice A4 g.length c4) g from Kd.S_lower (Kd.S_mono (Kd.S_bound ho) (fun _ h_ => Nat.le_trans HM.out h_.2.1)) (below_size HB.out)); replace HW := Aside0.mk (Kd.R_below HW.out hb); replace HX := Aside0.mk (Kd.S_below HX.out hb); replace HM := Aside0.mk (Nat.le_trans HM.out hb.size); replace HB := Aside0.mk (below_step HB.out hb); clear ho hb)
    | ((with_reducible refine gate_callee (f := 21) rfl ?_); refine goesL_ (some 25) rfl rfl Try.func21 (by kernel_rfl) rfl #[.slice A4 g.length c4, .slice A2 v.length c2] rfl mA ?_; (with_reducible refine (laws_eqNodeS.calls k A4 c4 g A2 c2 v true _ (kD_C (Kd.S_reads' HG.out).2.2) (Kd.S_reads' HG.out).2.1 (Kd.R_reads' HW.out).2.2 (Kd.R_reads' HW.out).2.1 T4.out).mono ?_); rintro e w6 ⟨rfl, hb⟩; refine ⟨_, rfl, ?_⟩; replace HW := Aside0.mk (Kd.R_below HW.out hb); replace HX := Aside0.mk (Kd.S_below HX.out hb); replace HG := Aside0.mk (Kd.S_below HG.out hb); replace HM := Aside0.mk (Nat.le_trans HM.out hb.size); replace HB := Aside0.mk (below_step HB.out hb); clear hb)
    | ((with_reducible refine gate_callee (f := 19) rfl ?_); refine goesL_ (some 29) rfl rfl Try.func19 (by kernel_rfl) rfl #[.slice A0 l0.length c0] rfl mA ?_; (with_reducible refine (laws_toNodeS.callsD k A0 c0 l0 x _ (Kd.C_below HR0.out HB.out) HC0.out T1.out).mono ?_); rintro e w7 ⟨v5, rfl, ho, hb⟩; refine ⟨_, rfl, ?_⟩; obtain ⟨A5, c5, e5⟩ := Kd.S_slice ho; subst e5; have HY := Aside0.mk ho; replace HW := Aside0.mk (Kd.R_below HW.out hb); replace HX := Aside0.mk (Kd.S_below HX.out hb); replace HG := Aside0.mk (Kd.S_below HG.out hb); replace HM := Aside0.mk (Nat.le_trans HM.out hb.size); replace HB := Aside0.mk (below_step HB.out hb); clear hb; clear ho)
    | ((with_reducible refine gate_callee (f := 21) rfl ?_); refine goesL_ (some 30) rfl rfl Try.func21 (by kernel_rfl) rfl #[.slice A3 x.length c3, .slice A5 x.length c5] rfl mA ?_; (with_reducible refine (laws_eqNodeS.calls k A3 c3 x A5 c5 x true _ (kD_C (Kd.S_reads' HX.out).2.2) (Kd.S_reads' HX.out).2.1 (kD_C (Kd.S_reads' HY.out).2.2) (Kd.S_reads' HY.out).2.1 T5.out).mono ?_); rintro e w8 ⟨rfl, hb⟩; refine ⟨_, rfl, ?_⟩; replace HW := Aside0.mk (Kd.R_below HW.out hb); replace HX := Aside0.mk (Kd.S_below HX.out hb); replace HG := Aside0.mk (Kd.S_below HG.out hb); replace HM := Aside0.mk (Nat.le_trans HM.out hb.size); replace HB := Aside0.mk (below_step HB.out hb); clear hb; clear HY)
    | ((with_reducible refine gate_callee (f := 22) rfl ?_); refine goesL_ (some 34) rfl rfl Try.func22 (by kernel_rfl) rfl #[.slice A3 x.length c3, .int .i64 1] rfl mA ?_; (with_reducible refine (laws_markNodeS.calls k (fun k_ => N ≤ k_ ∧ k_ < M) (.slice A3 x.length c3) x 1 p1 p2 w _ HB.out HX.out T6.out).mono ?_); rintro e w9 ⟨rfl, hR, hb, hkp⟩; refine ⟨_, rfl, ?_⟩; replace HW := Aside0.mk (Kd.R_kept HW.out hkp (fun k_ h1_ h2_ => Nat.not_le.2 h1_ h2_.1)); replace HG := Aside0.mk (Kd.S_kept HG.out hkp (fun k_ h1_ h2_ => Nat.not_le.2 h2_.2 h1_)); replace HM := Aside0.mk (Nat.le_trans HM.out hkp.1); replace HB := Aside0.mk hb; clear hR hb hkp; clear HX)
    | (go_at_call 21; (with_reducible refine (laws_eqNodeS.calls k A4 c4 g A2 c2 v true _ (kD_C (Kd.S_reads' HG.out).2.2) (Kd.S_reads' HG.out).2.1 (Kd.R_reads' HW.out).2.2 (Kd.R_reads' HW.out).2.1 T4.out).mono ?_); rintro e w10 ⟨rfl, hb⟩; replace HW := Aside0.mk (Kd.R_below HW.out hb); replace HG := Aside0.mk (Kd.S_below HG.out hb); replace HM := Aside0.mk (Nat.le_trans HM.out hb.size); replace HB := Aside0.mk (below_step HB.out hb); clear hb)
    | ((with_reducible refine gate_callee (f := 22) rfl ?_); refine goesL_ (some 45) rfl rfl Try.func22 (by kernel_rfl) rfl #[.slice A4 g.length c4, .int .i64 1] rfl mA ?_; (with_reducible refine (laws_markNodeS.calls k (fun k_ => M ≤ k_) (.slice A4 g.length c4) g 1 h1 q2 w _ HB.out HG.out T7.out).mono ?_); rintro e w11 ⟨rfl, hR, hb, hkp⟩; refine ⟨_, rfl, ?_⟩; replace HW := Aside0.mk (Kd.R_kept HW.out hkp (fun k_ h1_ h2_ => Nat.not_le.2 h1_ (Nat.le_trans HNM.out.2 h2_))); have HL := Aside0.mk (Kd.S_reads' hR).1; replace HG := Aside0.mk hR; replace HB := Aside0.mk hb; clear hR hb hkp)
    | ((with_reducible refine gate_callee (f := 23) rfl ?_); refine goesL_ (some 48) rfl rfl Try.func23 (by kernel_rfl) rfl #[.slice A4 g.length c4, .int .i64 1] rfl mA ?_; (with_reducible refine (laws_FnExactMerge.held k A4 c4 g q2 1 h1 _ HL.out (kD_C (Kd.S_reads' HG.out).2.2) (by rw [← HL.out]; exact (Kd.S_reads' HG.out).2.1) T8.out).mono ?_); rintro e w12 ⟨rfl, hb⟩; refine ⟨_, rfl, ?_⟩; replace HW := Aside0.mk (Kd.R_below HW.out hb); replace HG := Aside0.mk (Kd.S_below HG.out hb); replace HB := Aside0.mk (below_step HB.out hb); clear hb)
    | ((with_reducible refine gate_callee (f := 19) rfl ?_); refine goesL_ (some 55) rfl rfl Try.func19 (by kernel_rfl) rfl #[.slice A0 l0.length c0] rfl mA ?_; (with_reducible refine (laws_toNodeS.callsD k A0 c0 l0 x _ (Kd.C_below HR0.out HB.out) HC0.out T1.out).mono ?_); rintro e w13 ⟨v6, rfl, ho, hb⟩; refine ⟨_, rfl, ?_⟩; obtain ⟨A6, c6, e6⟩ := Kd.S_slice ho; subst e6; have HY := Aside0.mk ho; replace HW := Aside0.mk (Kd.R_below HW.out hb); replace HG := Aside0.mk (Kd.S_below HG.out hb); replace HB := Aside0.mk (below_step HB.out hb); clear ho hb)
    | ((with_reducible refine gate_callee (f := 20) rfl ?_); refine goesL_ (some 56) rfl rfl Try.func20 (by kernel_rfl) rfl #[.slice A6 x.length c6] rfl mA ?_; (with_reducible refine (impl_Merge.calls k A6 c6 x g _ (kD_C (Kd.S_reads' HY.out).2.2) (Kd.S_reads' HY.out).2.1 T3.out).mono ?_); rintro e w14 ⟨v7, rfl, ho, hb⟩; refine ⟨_, rfl, ?_⟩; obtain ⟨A7, c7, e7⟩ := Kd.R_slice ho; subst e7; have HZ := Aside0.mk ho; replace HW := Aside0.mk (Kd.R_below HW.out hb); replace HG := Aside0.mk (Kd.S_below HG.out hb); replace HB := Aside0.mk (below_step HB.out hb); clear ho hb; clear HY)
    | ((with_reducible refine gate_callee (f := 21) rfl ?_); refine goesL_ (some 59) rfl rfl Try.func21 (by kernel_rfl) rfl #[.slice A7 g.length c7, .slice A2 v.length c2] rfl mA ?_; (with_reducible refine (laws_eqNodeS.calls k A7 c7 g A2 c2 v true _ (Kd.R_reads' HZ.out).2.2 (Kd.R_reads' HZ.out).2.1 (Kd.R_reads' HW.out).2.2 (Kd.R_reads' HW.out).2.1 T4.out).mono ?_); rintro e w15 ⟨rfl, hb⟩; refine ⟨_, rfl, ?_⟩; replace HG := Aside0.mk (Kd.S_below HG.out hb); replace HB := Aside0.mk (below_step HB.out hb); clear hb; clear HW HZ)
    | ((with_reducible refine gate_callee (f := 23) rfl ?_); refine goesL_ (some 63) rfl rfl Try.func23 (by kernel_rfl) rfl #[.slice A4 g.length c4, .int .i64 1] rfl mA ?_; (with_reducible refine (laws_FnExactMerge.held k A4 c4 g q2 1 h1 _ HL.out (kD_C (Kd.S_reads' HG.out).2.2) (by rw [← HL.out]; exact (Kd.S_reads' HG.out).2.1) T8.out).mono ?_); rintro e w16 ⟨rfl, hb⟩; refine ⟨_, rfl, ?_⟩; replace HB := Aside0.mk (below_step HB.out hb); clear hb; clear HG))
  go_ret
  exact ⟨rfl, HB.out⟩

end Go.Proofs.Ytdbinpeglamnnaa.PX
