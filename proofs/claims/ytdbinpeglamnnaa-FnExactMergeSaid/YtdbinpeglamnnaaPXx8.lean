-- Written by the session's program hprint.py, over the kit's print program. Lean checks it.
import Derived.Test.YtdbinpeglamnnaaPXx0
import Derived.Test.YtdbinpeglamnnaaPXx6
namespace Go.Proofs.Ytdbinpeglamnnaa.PX
open Go.RowKit Go.Proofs.YtdbinpeglamnnaaW.PrintWords Go.Proofs.YtdbinpeglamnnaaW.PrintLast Go.Proofs.YtdbinpeglamnnaaW.PrintMore
attribute [local go_sem] max2_int min2_int max_two min_two max_three min_three max_four min_four   -- for this text's walks alone
set_option linter.unusedVariables false
set_option linter.unusedSimpArgs false
set_option maxHeartbeats 8000000
set_option maxRecDepth 100000

/-! ### laws_heldAttrS: function 50 -/
def laws_heldAttrS.l0 : Nat → List (S90) → Int → Int → Option (Int)
 | 0, _, _, _ => none
 | k + 1, x0, x1, x5 => if x5 < (x0.length : Int) then (if 0 ≤ x5 then ((laws_markText.f k x1).bind fun t392 => (if ((rd_T90 x0 x5).f0).toList = t392.toList then ((laws_markText.f k (wrap64 (x1 + 1))).bind fun t394 => (if ((rd_T90 x0 x5).f1).toList = t394.toList then ((laws_markText.f k (wrap64 ((wrap64 (x1 + 1)) + 1))).bind fun t396 => (if ((rd_T90 x0 x5).f2).toList = t396.toList then ((laws_markText.f k (wrap64 ((wrap64 ((wrap64 (x1 + 1)) + 1)) + 1))).bind fun t398 => (if ((rd_T90 x0 x5).f3).toList = t398.toList then (laws_heldAttrS.l0 k x0 (wrap64 ((wrap64 ((wrap64 ((wrap64 (x1 + 1)) + 1)) + 1)) + 1)) (wrap64 (x5 + 1))) else (some (-1)))) else (some (-1)))) else (some (-1)))) else (some (-1)))) else (none)) else (some x1)
def laws_heldAttrS.f (k : Nat) (l0 : List (S90)) (a1 : Int) : Option (Int) := laws_heldAttrS.l0 k l0 a1 0
def laws_heldAttrS.T4 : Bool × List (List Nat × List Nat) := (true, [([], []), ([], []), ([0, 1], [0, 1]), ([2], [2]), ([3], [3]), ([], []), ([5], [5]), ([4, 6], [4, 6])])
def laws_heldAttrS.B4 : List Nat := [0, 0, 3, 7, 15, 0, 32, 127]
theorem laws_heldAttrS.tab4 : rtab .any (opsOf Try.f50 4) = laws_heldAttrS.T4 := by kernel_rfl
theorem laws_heldAttrS.bits4 : waitsOk laws_heldAttrS.T4.2 laws_heldAttrS.B4 = true := by kernel_rfl
def laws_heldAttrS.T7 : Bool × List (List Nat × List Nat) := (true, [([], []), ([], []), ([0, 1], [0, 1]), ([2], [2]), ([3], [3]), ([], []), ([5], [5]), ([4, 6], [4, 6])])
def laws_heldAttrS.B7 : List Nat := [0, 0, 3, 7, 15, 0, 32, 127]
theorem laws_heldAttrS.tab7 : rtab .any (opsOf Try.f50 7) = laws_heldAttrS.T7 := by kernel_rfl
theorem laws_heldAttrS.bits7 : waitsOk laws_heldAttrS.T7.2 laws_heldAttrS.B7 = true := by kernel_rfl
def laws_heldAttrS.T10 : Bool × List (List Nat × List Nat) := (true, [([], []), ([], []), ([0, 1], [0, 1]), ([2], [2]), ([3], [3]), ([], []), ([5], [5]), ([4, 6], [4, 6])])
def laws_heldAttrS.B10 : List Nat := [0, 0, 3, 7, 15, 0, 32, 127]
theorem laws_heldAttrS.tab10 : rtab .any (opsOf Try.f50 10) = laws_heldAttrS.T10 := by kernel_rfl
theorem laws_heldAttrS.bits10 : waitsOk laws_heldAttrS.T10.2 laws_heldAttrS.B10 = true := by kernel_rfl
def laws_heldAttrS.T13 : Bool × List (List Nat × List Nat) := (true, [([], []), ([], []), ([0, 1], [0, 1]), ([2], [2]), ([3], [3]), ([], []), ([5], [5]), ([4, 6], [4, 6])])
def laws_heldAttrS.B13 : List Nat := [0, 0, 3, 7, 15, 0, 32, 127]
theorem laws_heldAttrS.tab13 : rtab .any (opsOf Try.f50 13) = laws_heldAttrS.T13 := by kernel_rfl
theorem laws_heldAttrS.bits13 : waitsOk laws_heldAttrS.T13.2 laws_heldAttrS.B13 = true := by kernel_rfl
theorem laws_heldAttrS.calls (k : Nat) (A0 : Option Addr) (c0 : Nat) (l0 : List (S90)) (a1 : Int) (r : Int) (w : World) (hr0 : Kd.C k90 w A0 l0.length l0) (hc0 : l0.length ≤ c0) (h : laws_heldAttrS.f k l0 a1 = some r) :
  Calls Try.prog 50 #[.slice A0 l0.length c0, .int .i64 a1] w fun e w' => e = .returned (.int .i64 r) ∧ Below w.heap.size w w' := by
 have HR0 := Aside0.mk hr0
 have HC0 := Aside0.mk hc0
 clear hr0 hc0
 have HB := Aside0.mk (Below.refl w.heap.size w)
 have H : (laws_heldAttrS.l0 k l0 a1 0) = some r := h
 clear h
 have H' := Aside0.mk H
 clear H
 go_enter Try.func50, Try.ntmps50
 go_wp2
 go_loopg [1, 5] k (fun kq v1 v5 w' => ∃ (x1_1 : Int) (x5_1 : Int), v1 = .int .i64 x1_1 ∧ v5 = .int .i64 x5_1 ∧ Aside0 (laws_heldAttrS.l0 kq l0 x1_1 x5_1 = some r) ∧ Aside0 (kq ≤ k) ∧ Aside0 (Below w.heap.size w w'))
 case atStart => exact ⟨(a1), (0), rG, rG, H', ⟨Nat.le_refl _⟩, ⟨hB⟩⟩
 case round =>
  clear H'
  obtain ⟨x1_1, x5_1, rfl, rfl, HA, HK1, HB⟩ := hrel
  cases gk with
  | zero => exact absurd HA.out (by simp [laws_heldAttrS.l0])
  | succ k1 =>
   have H := HA.out
   clear HA
   simp only [laws_heldAttrS.l0] at H
   by_cases c3 : x5_1 < (l0.length : Int)
   ·rw [if_pos c3] at H
    have c3b0 : decide (x5_1 < (l0.length : Int)) = true := decide_eq_true c3
    clear c3
    obtain ⟨c4, H⟩ := if_som H
    have c4b0 : decide (0 ≤ x5_1) = true := decide_eq_true c4
    clear c4
    replace H := Option.bind_eq_some_iff.mp H
    obtain ⟨t392, A50, H⟩ := H
    try dsimp only at H
    have A5 := Aside0.mk A50
    clear A50
    try go_wp2
    replace HB := Aside0.mk (below_drew1 HB.out)
    have p391 : 0 ≤ (x5_1 : Int) := odt
    have q391 : x5_1 < (l0.length : Int) := odt
    obtain ⟨ad391, e391, hx391_0, hx391_1, hx391_2, hx391_3⟩ := at_T90 HR0.out x5_1 p391 q391
    have hw391_3 := hx391_3
    have hw391_2 := hx391_2
    have hw391_1 := hx391_1
    have hw391_0 := hx391_0
    cases e391
    replace hx391_0 := pw_cell_below HB.out hx391_0
    replace hx391_1 := pw_cell_below HB.out hx391_1
    replace hx391_2 := pw_cell_below HB.out hx391_2
    replace hx391_3 := pw_cell_below HB.out hx391_3
    replace p391 := eq_true p391
    replace q391 := eq_true q391
    refine start_ (n := 8) (S := fun w' => w'.cell? (ad391.add ((x5_1).toNat * 4)) = some (.string ((rd_T90 l0 x5_1).f0)) ∧ w'.cell? ⟨(ad391.add ((x5_1).toNat * 4)).block, (ad391.add ((x5_1).toNat * 4)).off + 1, none⟩ = some (.string ((rd_T90 l0 x5_1).f1)) ∧ w'.cell? ⟨(ad391.add ((x5_1).toNat * 4)).block, (ad391.add ((x5_1).toNat * 4)).off + 2, none⟩ = some (.string ((rd_T90 l0 x5_1).f2)) ∧ w'.cell? ⟨(ad391.add ((x5_1).toNat * 4)).block, (ad391.add ((x5_1).toNat * 4)).off + 3, none⟩ = some (.string ((rd_T90 l0 x5_1).f3))) (ds := []) #[false, false, false, false, false, false, false, false] (by kernel_rfl) rfl rfl ⟨(pw_cell_below HB.out hw391_0), (pw_cell_below HB.out hw391_1), (pw_cell_below HB.out hw391_2), (pw_cell_below HB.out hw391_3)⟩ (fun hHeld => ?_); refine with_tabW laws_heldAttrS.tab4 laws_heldAttrS.bits4 (fun HT_ HW_ => ?_)
    generalize wr.drew = w6 at HB hx391_0 hx391_1 hx391_2 hx391_3 hHeld ⊢
    refine pU 0 12 (tf 1 7) ?_
    refine pU 1 13 (tf 2 6) ?_
    refine pU 2 14 (tf 3 5) ?_
    refine pU 3 15 (tf 4 4) ?_
    refine pU 5 17 #[true, true, true, true, false, true, false, false] ?_
    refine take_ (i := 4) (N := some 16) (v := ?_) (a' := ?_) (tf 6 2) rfl rfl (take_ofW HT_.out HW_.out (by kernel_rfl)) (fun _ _ _ h => h) (Or.inl ⟨by rfl, ?_⟩) hHeld ?_ ?_
    rotate_left
    ·rintro w' ⟨s0, s1, s2, s3⟩
     go_simp
     with_reducible rfl
    rotate_left
    ·simp only [Act.put, sT, sZ, sS, i64_w, i32_w]
     rfl
    refine one_ (i := 6) (N := some 18) (tf 7 1) rfl rfl (one_of HT_.out (by kernel_rfl)) (by decide) (fun K hK => ?_)
    refine goes_ Try.func48 (by kernel_rfl) rfl #[.int .i64 x1_1] (by rfl) rfl rfl mA ?_
    with_reducible refine (laws_markText.calls k1 x1_1 t392 _ A5.out).mono ?_
    rintro e w7 ⟨rfl, hb⟩
    refine ⟨_, rfl, ?_⟩
    replace HB := Aside0.mk (below_step hB hb)
    (try clear hb)
    (try clear hb2)
    (try clear hk)
    (try clear hi)
    refine hK.out _ _ ⟨(pw_cell_below HB.out hw391_0), (pw_cell_below HB.out hw391_1), (pw_cell_below HB.out hw391_2), (pw_cell_below HB.out hw391_3)⟩ (fun hHeld => ?_)
    clear hK K
    refine norm_ (a' := ?_) ?_ ?_
    rotate_left
    ·show Act.put _ (some 18) _ = _
     simp only [Act.put, sT, sZ, sS, i64_w, i32_w]
     rfl
    refine pU 7 19 (tf 8 0) ?_
    refine done_ (done_of HT_.out (by kernel_rfl)) ?_
    by_cases c8 : ((rd_T90 l0 x5_1).f0).toList = t392.toList
    ·rw [if_pos c8] at H
     obtain ⟨c8b0, c8b1⟩ := eqT c8
     clear c8
     (first | rw [c8b0] | (simp only [i64_w, i32_w]; rw [c8b0]) | skip)
     replace H := Option.bind_eq_some_iff.mp H
     obtain ⟨t394, A90, H⟩ := H
     try dsimp only at H
     have A9 := Aside0.mk A90
     clear A90
     try go_wp2
     replace HB := Aside0.mk (below_drew1 HB.out)
     have p393 : 0 ≤ (x5_1 : Int) := odt
     have q393 : x5_1 < (l0.length : Int) := odt
     obtain ⟨ad393, e393, hx393_0, hx393_1, hx393_2, hx393_3⟩ := at_T90 HR0.out x5_1 p393 q393
     have hw393_3 := hx393_3
     have hw393_2 := hx393_2
     have hw393_1 := hx393_1
     have hw393_0 := hx393_0
     obtain rfl : ad391 = ad393 := (by injection e393)
     replace hx393_0 := pw_cell_below HB.out hx393_0
     replace hx393_1 := pw_cell_below HB.out hx393_1
     replace hx393_2 := pw_cell_below HB.out hx393_2
     replace hx393_3 := pw_cell_below HB.out hx393_3
     replace p393 := eq_true p393
     replace q393 := eq_true q393
     refine start_ (n := 8) (S := fun w' => w'.cell? (ad391.add ((x5_1).toNat * 4)) = some (.string ((rd_T90 l0 x5_1).f0)) ∧ w'.cell? ⟨(ad391.add ((x5_1).toNat * 4)).block, (ad391.add ((x5_1).toNat * 4)).off + 1, none⟩ = some (.string ((rd_T90 l0 x5_1).f1)) ∧ w'.cell? ⟨(ad391.add ((x5_1).toNat * 4)).block, (ad391.add ((x5_1).toNat * 4)).off + 2, none⟩ = some (.string ((rd_T90 l0 x5_1).f2)) ∧ w'.cell? ⟨(ad391.add ((x5_1).toNat * 4)).block, (ad391.add ((x5_1).toNat * 4)).off + 3, none⟩ = some (.string ((rd_T90 l0 x5_1).f3))) (ds := []) #[false, false, false, false, false, false, false, false] (by kernel_rfl) rfl rfl ⟨(pw_cell_below HB.out hw393_0), (pw_cell_below HB.out hw393_1), (pw_cell_below HB.out hw393_2), (pw_cell_below HB.out hw393_3)⟩ (fun hHeld => ?_); refine with_tabW laws_heldAttrS.tab7 laws_heldAttrS.bits7 (fun HT_ HW_ => ?_)
     generalize w7.drew = w10 at HB hx393_0 hx393_1 hx393_2 hx393_3 hHeld ⊢
     refine pU 0 22 (tf 1 7) ?_
     refine pU 1 23 (tf 2 6) ?_
     refine pU 2 24 (tf 3 5) ?_
     refine pU 3 25 (tf 4 4) ?_
     refine pU 5 27 #[true, true, true, true, false, true, false, false] ?_
     refine take_ (i := 4) (N := some 26) (v := ?_) (a' := ?_) (tf 6 2) rfl rfl (take_ofW HT_.out HW_.out (by kernel_rfl)) (fun _ _ _ h => h) (Or.inl ⟨by rfl, ?_⟩) hHeld ?_ ?_
     rotate_left
     ·rintro w' ⟨s0, s1, s2, s3⟩
      go_simp
      with_reducible rfl
     rotate_left
     ·simp only [Act.put, sT, sZ, sS, i64_w, i32_w]
      rfl
     refine one_ (i := 6) (N := some 28) (tf 7 1) rfl rfl (one_of HT_.out (by kernel_rfl)) (by decide) (fun K hK => ?_)
     refine goes_ Try.func48 (by kernel_rfl) rfl #[.int .i64 (wrap64 (x1_1 + 1))] (by rfl) rfl rfl mA ?_
     with_reducible refine (laws_markText.calls k1 (wrap64 (x1_1 + 1)) t394 _ A9.out).mono ?_
     rintro e w11 ⟨rfl, hb⟩
     refine ⟨_, rfl, ?_⟩
     replace HB := Aside0.mk (below_step hB hb)
     (try clear hb)
     (try clear hb2)
     (try clear hk)
     (try clear hi)
     refine hK.out _ _ ⟨(pw_cell_below HB.out hw393_0), (pw_cell_below HB.out hw393_1), (pw_cell_below HB.out hw393_2), (pw_cell_below HB.out hw393_3)⟩ (fun hHeld => ?_)
     clear hK K
     refine norm_ (a' := ?_) ?_ ?_
     rotate_left
     ·show Act.put _ (some 28) _ = _
      simp only [Act.put, sT, sZ, sS, i64_w, i32_w]
      rfl
     refine pU 7 29 (tf 8 0) ?_
     refine done_ (done_of HT_.out (by kernel_rfl)) ?_
     by_cases c12 : ((rd_T90 l0 x5_1).f1).toList = t394.toList
     ·rw [if_pos c12] at H
      obtain ⟨c12b0, c12b1⟩ := eqT c12
      clear c12
      (first | rw [c12b0] | (simp only [i64_w, i32_w]; rw [c12b0]) | skip)
      replace H := Option.bind_eq_some_iff.mp H
      obtain ⟨t396, A130, H⟩ := H
      try dsimp only at H
      have A13 := Aside0.mk A130
      clear A130
      try go_wp2
      replace HB := Aside0.mk (below_drew1 HB.out)
      have p395 : 0 ≤ (x5_1 : Int) := odt
      have q395 : x5_1 < (l0.length : Int) := odt
      obtain ⟨ad395, e395, hx395_0, hx395_1, hx395_2, hx395_3⟩ := at_T90 HR0.out x5_1 p395 q395
      have hw395_3 := hx395_3
      have hw395_2 := hx395_2
      have hw395_1 := hx395_1
      have hw395_0 := hx395_0
      obtain rfl : ad391 = ad395 := (by injection e395)
      replace hx395_0 := pw_cell_below HB.out hx395_0
      replace hx395_1 := pw_cell_below HB.out hx395_1
      replace hx395_2 := pw_cell_below HB.out hx395_2
      replace hx395_3 := pw_cell_below HB.out hx395_3
      replace p395 := eq_true p395
      replace q395 := eq_true q395
      refine start_ (n := 8) (S := fun w' => w'.cell? (ad391.add ((x5_1).toNat * 4)) = some (.string ((rd_T90 l0 x5_1).f0)) ∧ w'.cell? ⟨(ad391.add ((x5_1).toNat * 4)).block, (ad391.add ((x5_1).toNat * 4)).off + 1, none⟩ = some (.string ((rd_T90 l0 x5_1).f1)) ∧ w'.cell? ⟨(ad391.add ((x5_1).toNat * 4)).block, (ad391.add ((x5_1).toNat * 4)).off + 2, none⟩ = some (.string ((rd_T90 l0 x5_1).f2)) ∧ w'.cell? ⟨(ad391.add ((x5_1).toNat * 4)).block, (ad391.add ((x5_1).toNat * 4)).off + 3, none⟩ = some (.string ((rd_T90 l0 x5_1).f3))) (ds := []) #[false, false, false, false, false, false, false, false] (by kernel_rfl) rfl rfl ⟨(pw_cell_below HB.out hw395_0), (pw_cell_below HB.out hw395_1), (pw_cell_below HB.out hw395_2), (pw_cell_below HB.out hw395_3)⟩ (fun hHeld => ?_); refine with_tabW laws_heldAttrS.tab10 laws_heldAttrS.bits10 (fun HT_ HW_ => ?_)
      generalize w11.drew = w14 at HB hx395_0 hx395_1 hx395_2 hx395_3 hHeld ⊢
      refine pU 0 32 (tf 1 7) ?_
      refine pU 1 33 (tf 2 6) ?_
      refine pU 2 34 (tf 3 5) ?_
      refine pU 3 35 (tf 4 4) ?_
      refine pU 5 37 #[true, true, true, true, false, true, false, false] ?_
      refine take_ (i := 4) (N := some 36) (v := ?_) (a' := ?_) (tf 6 2) rfl rfl (take_ofW HT_.out HW_.out (by kernel_rfl)) (fun _ _ _ h => h) (Or.inl ⟨by rfl, ?_⟩) hHeld ?_ ?_
      rotate_left
      ·rintro w' ⟨s0, s1, s2, s3⟩
       go_simp
       with_reducible rfl
      rotate_left
      ·simp only [Act.put, sT, sZ, sS, i64_w, i32_w]
       rfl
      refine one_ (i := 6) (N := some 38) (tf 7 1) rfl rfl (one_of HT_.out (by kernel_rfl)) (by decide) (fun K hK => ?_)
      refine goes_ Try.func48 (by kernel_rfl) rfl #[.int .i64 (wrap64 ((wrap64 (x1_1 + 1)) + 1))] (by rfl) rfl rfl mA ?_
      with_reducible refine (laws_markText.calls k1 (wrap64 ((wrap64 (x1_1 + 1)) + 1)) t396 _ A13.out).mono ?_
      rintro e w15 ⟨rfl, hb⟩
      refine ⟨_, rfl, ?_⟩
      replace HB := Aside0.mk (below_step hB hb)
      (try clear hb)
      (try clear hb2)
      (try clear hk)
      (try clear hi)
      refine hK.out _ _ ⟨(pw_cell_below HB.out hw395_0), (pw_cell_below HB.out hw395_1), (pw_cell_below HB.out hw395_2), (pw_cell_below HB.out hw395_3)⟩ (fun hHeld => ?_)
      clear hK K
      refine norm_ (a' := ?_) ?_ ?_
      rotate_left
      ·show Act.put _ (some 38) _ = _
       simp only [Act.put, sT, sZ, sS, i64_w, i32_w]
       rfl
      refine pU 7 39 (tf 8 0) ?_
      refine done_ (done_of HT_.out (by kernel_rfl)) ?_
      by_cases c16 : ((rd_T90 l0 x5_1).f2).toList = t396.toList
      ·rw [if_pos c16] at H
       obtain ⟨c16b0, c16b1⟩ := eqT c16
       clear c16
       (first | rw [c16b0] | (simp only [i64_w, i32_w]; rw [c16b0]) | skip)
       replace H := Option.bind_eq_some_iff.mp H
       obtain ⟨t398, A170, H⟩ := H
       try dsimp only at H
       have A17 := Aside0.mk A170
       clear A170
       try go_wp2
       replace HB := Aside0.mk (below_drew1 HB.out)
       have p397 : 0 ≤ (x5_1 : Int) := odt
       have q397 : x5_1 < (l0.length : Int) := odt
       obtain ⟨ad397, e397, hx397_0, hx397_1, hx397_2, hx397_3⟩ := at_T90 HR0.out x5_1 p397 q397
       have hw397_3 := hx397_3
       have hw397_2 := hx397_2
       have hw397_1 := hx397_1
       have hw397_0 := hx397_0
       obtain rfl : ad391 = ad397 := (by injection e397)
       replace hx397_0 := pw_cell_below HB.out hx397_0
       replace hx397_1 := pw_cell_below HB.out hx397_1
       replace hx397_2 := pw_cell_below HB.out hx397_2
       replace hx397_3 := pw_cell_below HB.out hx397_3
       replace p397 := eq_true p397
       replace q397 := eq_true q397
       refine start_ (n := 8) (S := fun w' => w'.cell? (ad391.add ((x5_1).toNat * 4)) = some (.string ((rd_T90 l0 x5_1).f0)) ∧ w'.cell? ⟨(ad391.add ((x5_1).toNat * 4)).block, (ad391.add ((x5_1).toNat * 4)).off + 1, none⟩ = some (.string ((rd_T90 l0 x5_1).f1)) ∧ w'.cell? ⟨(ad391.add ((x5_1).toNat * 4)).block, (ad391.add ((x5_1).toNat * 4)).off + 2, none⟩ = some (.string ((rd_T90 l0 x5_1).f2)) ∧ w'.cell? ⟨(ad391.add ((x5_1).toNat * 4)).block, (ad391.add ((x5_1).toNat * 4)).off + 3, none⟩ = some (.string ((rd_T90 l0 x5_1).f3))) (ds := []) #[false, false, false, false, false, false, false, false] (by kernel_rfl) rfl rfl ⟨(pw_cell_below HB.out hw397_0), (pw_cell_below HB.out hw397_1), (pw_cell_below HB.out hw397_2), (pw_cell_below HB.out hw397_3)⟩ (fun hHeld => ?_); refine with_tabW laws_heldAttrS.tab13 laws_heldAttrS.bits13 (fun HT_ HW_ => ?_)
       generalize w15.drew = w18 at HB hx397_0 hx397_1 hx397_2 hx397_3 hHeld ⊢
       refine pU 0 42 (tf 1 7) ?_
       refine pU 1 43 (tf 2 6) ?_
       refine pU 2 44 (tf 3 5) ?_
       refine pU 3 45 (tf 4 4) ?_
       refine pU 5 47 #[true, true, true, true, false, true, false, false] ?_
       refine take_ (i := 4) (N := some 46) (v := ?_) (a' := ?_) (tf 6 2) rfl rfl (take_ofW HT_.out HW_.out (by kernel_rfl)) (fun _ _ _ h => h) (Or.inl ⟨by rfl, ?_⟩) hHeld ?_ ?_
       rotate_left
       ·rintro w' ⟨s0, s1, s2, s3⟩
        go_simp
        with_reducible rfl
       rotate_left
       ·simp only [Act.put, sT, sZ, sS, i64_w, i32_w]
        rfl
       refine one_ (i := 6) (N := some 48) (tf 7 1) rfl rfl (one_of HT_.out (by kernel_rfl)) (by decide) (fun K hK => ?_)
       refine goes_ Try.func48 (by kernel_rfl) rfl #[.int .i64 (wrap64 ((wrap64 ((wrap64 (x1_1 + 1)) + 1)) + 1))] (by rfl) rfl rfl mA ?_
       with_reducible refine (laws_markText.calls k1 (wrap64 ((wrap64 ((wrap64 (x1_1 + 1)) + 1)) + 1)) t398 _ A17.out).mono ?_
       rintro e w19 ⟨rfl, hb⟩
       refine ⟨_, rfl, ?_⟩
       replace HB := Aside0.mk (below_step hB hb)
       (try clear hb)
       (try clear hb2)
       (try clear hk)
       (try clear hi)
       refine hK.out _ _ ⟨(pw_cell_below HB.out hw397_0), (pw_cell_below HB.out hw397_1), (pw_cell_below HB.out hw397_2), (pw_cell_below HB.out hw397_3)⟩ (fun hHeld => ?_)
       clear hK K
       refine norm_ (a' := ?_) ?_ ?_
       rotate_left
       ·show Act.put _ (some 48) _ = _
        simp only [Act.put, sT, sZ, sS, i64_w, i32_w]
        rfl
       refine pU 7 49 (tf 8 0) ?_
       refine done_ (done_of HT_.out (by kernel_rfl)) ?_
       by_cases c20 : ((rd_T90 l0 x5_1).f3).toList = t398.toList
       ·rw [if_pos c20] at H
        obtain ⟨c20b0, c20b1⟩ := eqT c20
        clear c20
        (first | rw [c20b0] | (simp only [i64_w, i32_w]; rw [c20b0]) | skip)
        have H' := Aside0.mk H
        clear H
        go_wp2
        go_roundg k1
        case measure => have := HK1.out; omega
        case rel => exact ⟨(wrap64 ((wrap64 ((wrap64 ((wrap64 (x1_1 + 1)) + 1)) + 1)) + 1)), (wrap64 (x5_1 + 1)), rG, rG, H', ⟨by have := HK1.out; omega⟩, ⟨hB⟩⟩
       ·rw [if_neg c20] at H
        obtain ⟨c20b0, c20b1⟩ := eqF c20
        (first | rw [c20b0] | (simp only [i64_w, i32_w]; rw [c20b0]) | skip)
        obtain rfl := Option.some.inj H
        go_wp2
        go_ret
        exact ⟨rE, hB⟩
      ·rw [if_neg c16] at H
       obtain ⟨c16b0, c16b1⟩ := eqF c16
       (first | rw [c16b0] | (simp only [i64_w, i32_w]; rw [c16b0]) | skip)
       obtain rfl := Option.some.inj H
       go_wp2
       go_ret
       exact ⟨rE, hB⟩
     ·rw [if_neg c12] at H
      obtain ⟨c12b0, c12b1⟩ := eqF c12
      (first | rw [c12b0] | (simp only [i64_w, i32_w]; rw [c12b0]) | skip)
      obtain rfl := Option.some.inj H
      go_wp2
      go_ret
      exact ⟨rE, hB⟩
    ·rw [if_neg c8] at H
     obtain ⟨c8b0, c8b1⟩ := eqF c8
     (first | rw [c8b0] | (simp only [i64_w, i32_w]; rw [c8b0]) | skip)
     obtain rfl := Option.some.inj H
     go_wp2
     go_ret
     exact ⟨rE, hB⟩
   ·rw [if_neg c3] at H
    have c3b0 : decide (x5_1 < (l0.length : Int)) = false := decide_eq_false c3
    clear c3
    obtain rfl := Option.some.inj H
    go_wp2
    go_ret
    exact ⟨rE, hB⟩

end Go.Proofs.Ytdbinpeglamnnaa.PX
