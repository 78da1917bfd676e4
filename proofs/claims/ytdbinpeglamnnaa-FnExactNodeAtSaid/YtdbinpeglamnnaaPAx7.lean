-- Written by the session's program hprint.py, over the kit's print program. Lean checks it.
import Derived.Test.YtdbinpeglamnnaaPAx0
import Derived.Test.YtdbinpeglamnnaaPAx3
namespace Go.Proofs.Ytdbinpeglamnnaa.PA
open Go.RowKit Go.Proofs.YtdbinpeglamnnaaW.PrintWords Go.Proofs.YtdbinpeglamnnaaW.PrintLast Go.Proofs.YtdbinpeglamnnaaW.PrintMore
attribute [local go_sem] max2_int min2_int max_two min_two max_three min_three max_four min_four   -- for this text's walks alone
set_option linter.unusedVariables false
set_option linter.unusedSimpArgs false
set_option maxHeartbeats 8000000
set_option maxRecDepth 100000

/-! ### laws_heldDeclS: function 49 -/
def laws_heldDeclS.l0 : Nat → List (S88) → Int → Int → Option (Int)
 | 0, _, _, _ => none
 | k + 1, x0, x1, x5 => if x5 < (x0.length : Int) then (if 0 ≤ x5 then ((laws_markText.f k x1).bind fun t318 => (if ((rd_T88 x0 x5).f0).toList = t318.toList then ((laws_markText.f k (wrap64 (x1 + 1))).bind fun t320 => (if ((rd_T88 x0 x5).f1).toList = t320.toList then (laws_heldDeclS.l0 k x0 (wrap64 ((wrap64 (x1 + 1)) + 1)) (wrap64 (x5 + 1))) else (some (-1)))) else (some (-1)))) else (none)) else (some x1)
def laws_heldDeclS.f (k : Nat) (l0 : List (S88)) (a1 : Int) : Option (Int) := laws_heldDeclS.l0 k l0 a1 0
def laws_heldDeclS.T4 : Bool × List (List Nat × List Nat) := (true, [([], []), ([], []), ([0, 1], [0, 1]), ([2], [2]), ([3], [3]), ([], []), ([5], [5]), ([4, 6], [4, 6])])
def laws_heldDeclS.B4 : List Nat := [0, 0, 3, 7, 15, 0, 32, 127]
theorem laws_heldDeclS.tab4 : rtab .any (opsOf Try.f49 4) = laws_heldDeclS.T4 := by kernel_rfl
theorem laws_heldDeclS.bits4 : waitsOk laws_heldDeclS.T4.2 laws_heldDeclS.B4 = true := by kernel_rfl
def laws_heldDeclS.T7 : Bool × List (List Nat × List Nat) := (true, [([], []), ([], []), ([0, 1], [0, 1]), ([2], [2]), ([3], [3]), ([], []), ([5], [5]), ([4, 6], [4, 6])])
def laws_heldDeclS.B7 : List Nat := [0, 0, 3, 7, 15, 0, 32, 127]
theorem laws_heldDeclS.tab7 : rtab .any (opsOf Try.f49 7) = laws_heldDeclS.T7 := by kernel_rfl
theorem laws_heldDeclS.bits7 : waitsOk laws_heldDeclS.T7.2 laws_heldDeclS.B7 = true := by kernel_rfl
theorem laws_heldDeclS.calls (k : Nat) (A0 : Option Addr) (c0 : Nat) (l0 : List (S88)) (a1 : Int) (r : Int) (w : World) (hr0 : Kd.C k88 w A0 l0.length l0) (hc0 : l0.length ≤ c0) (h : laws_heldDeclS.f k l0 a1 = some r) :
  Calls Try.prog 49 #[.slice A0 l0.length c0, .int .i64 a1] w fun e w' => e = .returned (.int .i64 r) ∧ Below w.heap.size w w' := by
 have HR0 := Aside0.mk hr0
 have HC0 := Aside0.mk hc0
 clear hr0 hc0
 have HB := Aside0.mk (Below.refl w.heap.size w)
 have H : (laws_heldDeclS.l0 k l0 a1 0) = some r := h
 clear h
 have H' := Aside0.mk H
 clear H
 go_enter Try.func49, Try.ntmps49
 go_wp2
 go_loopg [1, 5] k (fun kq v1 v5 w' => ∃ (x1_1 : Int) (x5_1 : Int), v1 = .int .i64 x1_1 ∧ v5 = .int .i64 x5_1 ∧ Aside0 (laws_heldDeclS.l0 kq l0 x1_1 x5_1 = some r) ∧ Aside0 (kq ≤ k) ∧ Aside0 (Below w.heap.size w w'))
 case atStart => exact ⟨(a1), (0), rG, rG, H', ⟨Nat.le_refl _⟩, ⟨hB⟩⟩
 case round =>
  clear H'
  obtain ⟨x1_1, x5_1, rfl, rfl, HA, HK1, HB⟩ := hrel
  cases gk with
  | zero => exact absurd HA.out (by simp [laws_heldDeclS.l0])
  | succ k1 =>
   have H := HA.out
   clear HA
   simp only [laws_heldDeclS.l0] at H
   by_cases c3 : x5_1 < (l0.length : Int)
   ·rw [if_pos c3] at H
    have c3b0 : decide (x5_1 < (l0.length : Int)) = true := decide_eq_true c3
    clear c3
    obtain ⟨c4, H⟩ := if_som H
    have c4b0 : decide (0 ≤ x5_1) = true := decide_eq_true c4
    clear c4
    replace H := Option.bind_eq_some_iff.mp H
    obtain ⟨t318, A50, H⟩ := H
    try dsimp only at H
    have A5 := Aside0.mk A50
    clear A50
    try go_wp2
    replace HB := Aside0.mk (below_drew1 HB.out)
    have p317 : 0 ≤ (x5_1 : Int) := odt
    have q317 : x5_1 < (l0.length : Int) := odt
    obtain ⟨ad317, e317, hx317_0, hx317_1⟩ := at_T88 HR0.out x5_1 p317 q317
    have hw317_1 := hx317_1
    have hw317_0 := hx317_0
    cases e317
    replace hx317_0 := pw_cell_below HB.out hx317_0
    replace hx317_1 := pw_cell_below HB.out hx317_1
    replace p317 := eq_true p317
    replace q317 := eq_true q317
    refine start_ (n := 8) (S := fun w' => w'.cell? (ad317.add ((x5_1).toNat * 2)) = some (.string ((rd_T88 l0 x5_1).f0)) ∧ w'.cell? ⟨(ad317.add ((x5_1).toNat * 2)).block, (ad317.add ((x5_1).toNat * 2)).off + 1, none⟩ = some (.string ((rd_T88 l0 x5_1).f1))) (ds := []) #[false, false, false, false, false, false, false, false] (by kernel_rfl) rfl rfl ⟨(pw_cell_below HB.out hw317_0), (pw_cell_below HB.out hw317_1)⟩ (fun hHeld => ?_); refine with_tabW laws_heldDeclS.tab4 laws_heldDeclS.bits4 (fun HT_ HW_ => ?_)
    generalize wr.drew = w6 at HB hx317_0 hx317_1 hHeld ⊢
    refine pU 0 12 (tf 1 7) ?_
    refine pU 1 13 (tf 2 6) ?_
    refine pU 2 14 (tf 3 5) ?_
    refine pU 3 15 (tf 4 4) ?_
    refine pU 5 17 #[true, true, true, true, false, true, false, false] ?_
    refine take_ (i := 4) (N := some 16) (v := ?_) (a' := ?_) (tf 6 2) rfl rfl (take_ofW HT_.out HW_.out (by kernel_rfl)) (fun _ _ _ h => h) (Or.inl ⟨by rfl, ?_⟩) hHeld ?_ ?_
    rotate_left
    ·rintro w' ⟨s0, s1⟩
     go_simp
     with_reducible rfl
    rotate_left
    ·simp only [Act.put, sT, sZ, sS, i64_w, i32_w]
     rfl
    refine one_ (i := 6) (N := some 18) (tf 7 1) rfl rfl (one_of HT_.out (by kernel_rfl)) (by decide) (fun K hK => ?_)
    refine goes_ Try.func48 (by kernel_rfl) rfl #[.int .i64 x1_1] (by rfl) rfl rfl mA ?_
    with_reducible refine (laws_markText.calls k1 x1_1 t318 _ A5.out).mono ?_
    rintro e w7 ⟨rfl, hb⟩
    refine ⟨_, rfl, ?_⟩
    replace HB := Aside0.mk (below_step hB hb)
    (try clear hb)
    (try clear hb2)
    (try clear hk)
    (try clear hi)
    refine hK.out _ _ ⟨(pw_cell_below HB.out hw317_0), (pw_cell_below HB.out hw317_1)⟩ (fun hHeld => ?_)
    clear hK K
    refine norm_ (a' := ?_) ?_ ?_
    rotate_left
    ·show Act.put _ (some 18) _ = _
     simp only [Act.put, sT, sZ, sS, i64_w, i32_w]
     rfl
    refine pU 7 19 (tf 8 0) ?_
    refine done_ (done_of HT_.out (by kernel_rfl)) ?_
    by_cases c8 : ((rd_T88 l0 x5_1).f0).toList = t318.toList
    ·rw [if_pos c8] at H
     obtain ⟨c8b0, c8b1⟩ := eqT c8
     clear c8
     (first | rw [c8b0] | (simp only [i64_w, i32_w]; rw [c8b0]) | skip)
     replace H := Option.bind_eq_some_iff.mp H
     obtain ⟨t320, A90, H⟩ := H
     try dsimp only at H
     have A9 := Aside0.mk A90
     clear A90
     try go_wp2
     replace HB := Aside0.mk (below_drew1 HB.out)
     have p319 : 0 ≤ (x5_1 : Int) := odt
     have q319 : x5_1 < (l0.length : Int) := odt
     obtain ⟨ad319, e319, hx319_0, hx319_1⟩ := at_T88 HR0.out x5_1 p319 q319
     have hw319_1 := hx319_1
     have hw319_0 := hx319_0
     obtain rfl : ad317 = ad319 := (by injection e319)
     replace hx319_0 := pw_cell_below HB.out hx319_0
     replace hx319_1 := pw_cell_below HB.out hx319_1
     replace p319 := eq_true p319
     replace q319 := eq_true q319
     refine start_ (n := 8) (S := fun w' => w'.cell? (ad317.add ((x5_1).toNat * 2)) = some (.string ((rd_T88 l0 x5_1).f0)) ∧ w'.cell? ⟨(ad317.add ((x5_1).toNat * 2)).block, (ad317.add ((x5_1).toNat * 2)).off + 1, none⟩ = some (.string ((rd_T88 l0 x5_1).f1))) (ds := []) #[false, false, false, false, false, false, false, false] (by kernel_rfl) rfl rfl ⟨(pw_cell_below HB.out hw319_0), (pw_cell_below HB.out hw319_1)⟩ (fun hHeld => ?_); refine with_tabW laws_heldDeclS.tab7 laws_heldDeclS.bits7 (fun HT_ HW_ => ?_)
     generalize w7.drew = w10 at HB hx319_0 hx319_1 hHeld ⊢
     refine pU 0 22 (tf 1 7) ?_
     refine pU 1 23 (tf 2 6) ?_
     refine pU 2 24 (tf 3 5) ?_
     refine pU 3 25 (tf 4 4) ?_
     refine pU 5 27 #[true, true, true, true, false, true, false, false] ?_
     refine take_ (i := 4) (N := some 26) (v := ?_) (a' := ?_) (tf 6 2) rfl rfl (take_ofW HT_.out HW_.out (by kernel_rfl)) (fun _ _ _ h => h) (Or.inl ⟨by rfl, ?_⟩) hHeld ?_ ?_
     rotate_left
     ·rintro w' ⟨s0, s1⟩
      go_simp
      with_reducible rfl
     rotate_left
     ·simp only [Act.put, sT, sZ, sS, i64_w, i32_w]
      rfl
     refine one_ (i := 6) (N := some 28) (tf 7 1) rfl rfl (one_of HT_.out (by kernel_rfl)) (by decide) (fun K hK => ?_)
     refine goes_ Try.func48 (by kernel_rfl) rfl #[.int .i64 (wrap64 (x1_1 + 1))] (by rfl) rfl rfl mA ?_
     with_reducible refine (laws_markText.calls k1 (wrap64 (x1_1 + 1)) t320 _ A9.out).mono ?_
     rintro e w11 ⟨rfl, hb⟩
     refine ⟨_, rfl, ?_⟩
     replace HB := Aside0.mk (below_step hB hb)
     (try clear hb)
     (try clear hb2)
     (try clear hk)
     (try clear hi)
     refine hK.out _ _ ⟨(pw_cell_below HB.out hw319_0), (pw_cell_below HB.out hw319_1)⟩ (fun hHeld => ?_)
     clear hK K
     refine norm_ (a' := ?_) ?_ ?_
     rotate_left
     ·show Act.put _ (some 28) _ = _
      simp only [Act.put, sT, sZ, sS, i64_w, i32_w]
      rfl
     refine pU 7 29 (tf 8 0) ?_
     refine done_ (done_of HT_.out (by kernel_rfl)) ?_
     by_cases c12 : ((rd_T88 l0 x5_1).f1).toList = t320.toList
     ·rw [if_pos c12] at H
      obtain ⟨c12b0, c12b1⟩ := eqT c12
      clear c12
      (first | rw [c12b0] | (simp only [i64_w, i32_w]; rw [c12b0]) | skip)
      have H' := Aside0.mk H
      clear H
      go_wp2
      go_roundg k1
      case measure => have := HK1.out; omega
      case rel => exact ⟨(wrap64 ((wrap64 (x1_1 + 1)) + 1)), (wrap64 (x5_1 + 1)), rG, rG, H', ⟨by have := HK1.out; omega⟩, ⟨hB⟩⟩
     ·rw [if_neg c12] at H
      obtain ⟨c12b0, c12b1⟩ := eqF c12
      (first | rw [c12b0] | (simp only [i64_w, i32_w]; rw [c12b0]) | skip)
      obtain rfl := Option.some.inj H
      go_wp2
      go_ret
      exact ⟨rE, hB⟩
    ·rw [if_neg c8] at H
     obtain ⟨c8b0, c8b1⟩ := eqF c8
     (first | rw [c8b0] | (simp only [i64_w, i32_w]; rw [c8b0]) | skip)
     obtain rfl := Option.some.inj H
     go_wp2
     go_ret
     exact ⟨rE, hB⟩
   ·rw [if_neg c3] at H
    have c3b0 : decide (x5_1 < (l0.length : Int)) = false := decide_eq_false c3
    clear c3
    obtain rfl := Option.some.inj H
    go_wp2
    go_ret
    exact ⟨rE, hB⟩

/-! ### laws_heldAttrS: function 50 -/
def laws_heldAttrS.l0 : Nat → List (S90) → Int → Int → Option (Int)
 | 0, _, _, _ => none
 | k + 1, x0, x1, x5 => if x5 < (x0.length : Int) then (if 0 ≤ x5 then ((laws_markText.f k x1).bind fun t322 => (if ((rd_T90 x0 x5).f0).toList = t322.toList then ((laws_markText.f k (wrap64 (x1 + 1))).bind fun t324 => (if ((rd_T90 x0 x5).f1).toList = t324.toList then ((laws_markText.f k (wrap64 ((wrap64 (x1 + 1)) + 1))).bind fun t326 => (if ((rd_T90 x0 x5).f2).toList = t326.toList then ((laws_markText.f k (wrap64 ((wrap64 ((wrap64 (x1 + 1)) + 1)) + 1))).bind fun t328 => (if ((rd_T90 x0 x5).f3).toList = t328.toList then (laws_heldAttrS.l0 k x0 (wrap64 ((wrap64 ((wrap64 ((wrap64 (x1 + 1)) + 1)) + 1)) + 1)) (wrap64 (x5 + 1))) else (some (-1)))) else (some (-1)))) else (some (-1)))) else (some (-1)))) else (none)) else (some x1)
def laws_heldAttrS.f (k : Nat) (l0 : List (S90)) (a1 : Int) : Option (Int) := laws_heldAttrS.l0 k l0 a1 0
def laws_heldAttrS.T4 : Bool × List (List Nat × List Nat) := (true, [([], []), ([], []), ([0, 1], [0, 1]), ([2], [2]), ([3], [3]), ([], []), ([5], [5]), ([4, 6], [4, 6])])
def laws_heldAttrS.B4 : List Nat := [0, 0, 3, 7, 15, 0, 32, 127]
theorem laws_heldAttrS.tab4 : rtab .any (opsOf Try.f50 4) = laws_heldAttrS.T4 := by kernel_rfl
theorem laws_heldAttrS.bits4 : waitsOk laws_heldAttrS.T4.2 laws_heldAttrS.B4 = true := by kernel_rfl
def laws_heldAttrS.T7 : Bool × List (List Nat × List Nat) := (true, [([], []), ([], []), ([0, 1], [0, 1]), ([2], [2]), ([3], [3]), ([], []), ([5], [5]), ([4, 6], [4, 6])])
def laws_heldAttrS.B7 : List Nat := [0, 0, 3, 7, 15, 0, 32, 127]
theorem laws_heldAttrS.tab7 : rtab .any (opsOf Try.f50 7) = laws_heldAttrS.T7 := by kernel_rfl
theorem laws_heldAttrS.bits7 : waitsOk laws_heldAttrS.T7.2 laws_heldAttrS.B7 = true := by kernel_rfl
def laws_heldAttrS.T10 : Bool × List (List Nat × List Nat) := (true, [([], []), ([], []), ([0, 1], [0, 1]), ([2], [2]), ([3], [3]), ([], []), ([5], [5]), ([4, 6], [4, 6])])
def laws_heldAttrS.B10 : List Nat := [0, 0, 3, 7, 15, 0, 32, 127]
theorem laws_heldAttrS.tab10 : rtab .any (opsOf Try.f50 10) = laws_heldAttrS.T10 := by kernel_rfl
theorem laws_heldAttrS.bits10 : waitsOk laws_heldAttrS.T10.2 laws_heldAttrS.B10 = true := by kernel_rfl
def laws_heldAttrS.T13 : Bool × List (List Nat × List Nat) := (true, [([], []), ([], []), ([0, 1], [0, 1]), ([2], [2]), ([3], [3]), ([], []), ([5], [5]), ([4, 6], [4, 6])])
def laws_heldAttrS.B13 : List Nat := [0, 0, 3, 7, 15, 0, 32, 127]
theorem laws_heldAttrS.tab13 : rtab .any (opsOf Try.f50 13) = laws_heldAttrS.T13 := by kernel_rfl
theorem laws_heldAttrS.bits13 : waitsOk laws_heldAttrS.T13.2 laws_heldAttrS.B13 = true := by kernel_rfl
theorem laws_heldAttrS.calls (k : Nat) (A0 : Option Addr) (c0 : Nat) (l0 : List (S90)) (a1 : Int) (r : Int) (w : World) (hr0 : Kd.C k90 w A0 l0.length l0) (hc0 : l0.length ≤ c0) (h : laws_heldAttrS.f k l0 a1 = some r) :
  Calls Try.prog 50 #[.slice A0 l0.length c0, .int .i64 a1] w fun e w' => e = .returned (.int .i64 r) ∧ Below w.heap.size w w' := by
 have HR0 := Aside0.mk hr0
 have HC0 := Aside0.mk hc0
 clear hr0 hc0
 have HB := Aside0.mk (Below.refl w.heap.size w)
 have H : (laws_heldAttrS.l0 k l0 a1 0) = some r := h
 clear h
 have H' := Aside0.mk H
 clear H
 go_enter Try.func50, Try.ntmps50
 go_wp2
 go_loopg [1, 5] k (fun kq v1 v5 w' => ∃ (x1_1 : Int) (x5_1 : Int), v1 = .int .i64 x1_1 ∧ v5 = .int .i64 x5_1 ∧ Aside0 (laws_heldAttrS.l0 kq l0 x1_1 x5_1 = some r) ∧ Aside0 (kq ≤ k) ∧ Aside0 (Below w.heap.size w w'))
 case atStart => exact ⟨(a1), (0), rG, rG, H', ⟨Nat.le_refl _⟩, ⟨hB⟩⟩
 case round =>
  clear H'
  obtain ⟨x1_1, x5_1, rfl, rfl, HA, HK1, HB⟩ := hrel
  cases gk with
  | zero => exact absurd HA.out (by simp [laws_heldAttrS.l0])
  | succ k1 =>
   have H := HA.out
   clear HA
   simp only [laws_heldAttrS.l0] at H
   by_cases c3 : x5_1 < (l0.length : Int)
   ·rw [if_pos c3] at H
    have c3b0 : decide (x5_1 < (l0.length : Int)) = true := decide_eq_true c3
    clear c3
    obtain ⟨c4, H⟩ := if_som H
    have c4b0 : decide (0 ≤ x5_1) = true := decide_eq_true c4
    clear c4
    replace H := Option.bind_eq_some_iff.mp H
    obtain ⟨t322, A50, H⟩ := H
    try dsimp only at H
    have A5 := Aside0.mk A50
    clear A50
    try go_wp2
    replace HB := Aside0.mk (below_drew1 HB.out)
    have p321 : 0 ≤ (x5_1 : Int) := odt
    have q321 : x5_1 < (l0.length : Int) := odt
    obtain ⟨ad321, e321, hx321_0, hx321_1, hx321_2, hx321_3⟩ := at_T90 HR0.out x5_1 p321 q321
    have hw321_3 := hx321_3
    have hw321_2 := hx321_2
    have hw321_1 := hx321_1
    have hw321_0 := hx321_0
    cases e321
    replace hx321_0 := pw_cell_below HB.out hx321_0
    replace hx321_1 := pw_cell_below HB.out hx321_1
    replace hx321_2 := pw_cell_below HB.out hx321_2
    replace hx321_3 := pw_cell_below HB.out hx321_3
    replace p321 := eq_true p321
    replace q321 := eq_true q321
    refine start_ (n := 8) (S := fun w' => w'.cell? (ad321.add ((x5_1).toNat * 4)) = some (.string ((rd_T90 l0 x5_1).f0)) ∧ w'.cell? ⟨(ad321.add ((x5_1).toNat * 4)).block, (ad321.add ((x5_1).toNat * 4)).off + 1, none⟩ = some (.string ((rd_T90 l0 x5_1).f1)) ∧ w'.cell? ⟨(ad321.add ((x5_1).toNat * 4)).block, (ad321.add ((x5_1).toNat * 4)).off + 2, none⟩ = some (.string ((rd_T90 l0 x5_1).f2)) ∧ w'.cell? ⟨(ad321.add ((x5_1).toNat * 4)).block, (ad321.add ((x5_1).toNat * 4)).off + 3, none⟩ = some (.string ((rd_T90 l0 x5_1).f3))) (ds := []) #[false, false, false, false, false, false, false, false] (by kernel_rfl) rfl rfl ⟨(pw_cell_below HB.out hw321_0), (pw_cell_below HB.out hw321_1), (pw_cell_below HB.out hw321_2), (pw_cell_below HB.out hw321_3)⟩ (fun hHeld => ?_); refine with_tabW laws_heldAttrS.tab4 laws_heldAttrS.bits4 (fun HT_ HW_ => ?_)
    generalize wr.drew = w6 at HB hx321_0 hx321_1 hx321_2 hx321_3 hHeld ⊢
    refine pU 0 12 (tf 1 7) ?_
    refine pU 1 13 (tf 2 6) ?_
    refine pU 2 14 (tf 3 5) ?_
    refine pU 3 15 (tf 4 4) ?_
    refine pU 5 17 #[true, true, true, true, false, true, false, false] ?_
    refine take_ (i := 4) (N := some 16) (v := ?_) (a' := ?_) (tf 6 2) rfl rfl (take_ofW HT_.out HW_.out (by kernel_rfl)) (fun _ _ _ h => h) (Or.inl ⟨by rfl, ?_⟩) hHeld ?_ ?_
    rotate_left
    ·rintro w' ⟨s0, s1, s2, s3⟩
     go_simp
     with_reducible rfl
    rotate_left
    ·simp only [Act.put, sT, sZ, sS, i64_w, i32_w]
     rfl
    refine one_ (i := 6) (N := some 18) (tf 7 1) rfl rfl (one_of HT_.out (by kernel_rfl)) (by decide) (fun K hK => ?_)
    refine goes_ Try.func48 (by kernel_rfl) rfl #[.int .i64 x1_1] (by rfl) rfl rfl mA ?_
    with_reducible refine (laws_markText.calls k1 x1_1 t322 _ A5.out).mono ?_
    rintro e w7 ⟨rfl, hb⟩
    refine ⟨_, rfl, ?_⟩
    replace HB := Aside0.mk (below_step hB hb)
    (try clear hb)
    (try clear hb2)
    (try clear hk)
    (try clear hi)
    refine hK.out _ _ ⟨(pw_cell_below HB.out hw321_0), (pw_cell_below HB.out hw321_1), (pw_cell_below HB.out hw321_2), (pw_cell_below HB.out hw321_3)⟩ (fun hHeld => ?_)
    clear hK K
    refine norm_ (a' := ?_) ?_ ?_
    rotate_left
    ·show Act.put _ (some 18) _ = _
     simp only [Act.put, sT, sZ, sS, i64_w, i32_w]
     rfl
    refine pU 7 19 (tf 8 0) ?_
    refine done_ (done_of HT_.out (by kernel_rfl)) ?_
    by_cases c8 : ((rd_T90 l0 x5_1).f0).toList = t322.toList
    ·rw [if_pos c8] at H
     obtain ⟨c8b0, c8b1⟩ := eqT c8
     clear c8
     (first | rw [c8b0] | (simp only [i64_w, i32_w]; rw [c8b0]) | skip)
     replace H := Option.bind_eq_some_iff.mp H
     obtain ⟨t324, A90, H⟩ := H
     try dsimp only at H
     have A9 := Aside0.mk A90
     clear A90
     try go_wp2
     replace HB := Aside0.mk (below_drew1 HB.out)
     have p323 : 0 ≤ (x5_1 : Int) := odt
     have q323 : x5_1 < (l0.length : Int) := odt
     obtain ⟨ad323, e323, hx323_0, hx323_1, hx323_2, hx323_3⟩ := at_T90 HR0.out x5_1 p323 q323
     have hw323_3 := hx323_3
     have hw323_2 := hx323_2
     have hw323_1 := hx323_1
     have hw323_0 := hx323_0
     obtain rfl : ad321 = ad323 := (by injection e323)
     replace hx323_0 := pw_cell_below HB.out hx323_0
     replace hx323_1 := pw_cell_below HB.out hx323_1
     replace hx323_2 := pw_cell_below HB.out hx323_2
     replace hx323_3 := pw_cell_below HB.out hx323_3
     replace p323 := eq_true p323
     replace q323 := eq_true q323
     refine start_ (n := 8) (S := fun w' => w'.cell? (ad321.add ((x5_1).toNat * 4)) = some (.string ((rd_T90 l0 x5_1).f0)) ∧ w'.cell? ⟨(ad321.add ((x5_1).toNat * 4)).block, (ad321.add ((x5_1).toNat * 4)).off + 1, none⟩ = some (.string ((rd_T90 l0 x5_1).f1)) ∧ w'.cell? ⟨(ad321.add ((x5_1).toNat * 4)).block, (ad321.add ((x5_1).toNat * 4)).off + 2, none⟩ = some (.string ((rd_T90 l0 x5_1).f2)) ∧ w'.cell? ⟨(ad321.add ((x5_1).toNat * 4)).block, (ad321.add ((x5_1).toNat * 4)).off + 3, none⟩ = some (.string ((rd_T90 l0 x5_1).f3))) (ds := []) #[false, false, false, false, false, false, false, false] (by kernel_rfl) rfl rfl ⟨(pw_cell_below HB.out hw323_0), (pw_cell_below HB.out hw323_1), (pw_cell_below HB.out hw323_2), (pw_cell_below HB.out hw323_3)⟩ (fun hHeld => ?_); refine with_tabW laws_heldAttrS.tab7 laws_heldAttrS.bits7 (fun HT_ HW_ => ?_)
     generalize w7.drew = w10 at HB hx323_0 hx323_1 hx323_2 hx323_3 hHeld ⊢
     refine pU 0 22 (tf 1 7) ?_
     refine pU 1 23 (tf 2 6) ?_
     refine pU 2 24 (tf 3 5) ?_
     refine pU 3 25 (tf 4 4) ?_
     refine pU 5 27 #[true, true, true, true, false, true, false, false] ?_
     refine take_ (i := 4) (N := some 26) (v := ?_) (a' := ?_) (tf 6 2) rfl rfl (take_ofW HT_.out HW_.out (by kernel_rfl)) (fun _ _ _ h => h) (Or.inl ⟨by rfl, ?_⟩) hHeld ?_ ?_
     rotate_left
     ·rintro w' ⟨s0, s1, s2, s3⟩
      go_simp
      with_reducible rfl
     rotate_left
     ·simp only [Act.put, sT, sZ, sS, i64_w, i32_w]
      rfl
     refine one_ (i := 6) (N := some 28) (tf 7 1) rfl rfl (one_of HT_.out (by kernel_rfl)) (by decide) (fun K hK => ?_)
     refine goes_ Try.func48 (by kernel_rfl) rfl #[.int .i64 (wrap64 (x1_1 + 1))] (by rfl) rfl rfl mA ?_
     with_reducible refine (laws_markText.calls k1 (wrap64 (x1_1 + 1)) t324 _ A9.out).mono ?_
     rintro e w11 ⟨rfl, hb⟩
     refine ⟨_, rfl, ?_⟩
     replace HB := Aside0.mk (below_step hB hb)
     (try clear hb)
     (try clear hb2)
     (try clear hk)
     (try clear hi)
     refine hK.out _ _ ⟨(pw_cell_below HB.out hw323_0), (pw_cell_below HB.out hw323_1), (pw_cell_below HB.out hw323_2), (pw_cell_below HB.out hw323_3)⟩ (fun hHeld => ?_)
     clear hK K
     refine norm_ (a' := ?_) ?_ ?_
     rotate_left
     ·show Act.put _ (some 28) _ = _
      simp only [Act.put, sT, sZ, sS, i64_w, i32_w]
      rfl
     refine pU 7 29 (tf 8 0) ?_
     refine done_ (done_of HT_.out (by kernel_rfl)) ?_
     by_cases c12 : ((rd_T90 l0 x5_1).f1).toList = t324.toList
     ·rw [if_pos c12] at H
      obtain ⟨c12b0, c12b1⟩ := eqT c12
      clear c12
      (first | rw [c12b0] | (simp only [i64_w, i32_w]; rw [c12b0]) | skip)
      replace H := Option.bind_eq_some_iff.mp H
      obtain ⟨t326, A130, H⟩ := H
      try dsimp only at H
      have A13 := Aside0.mk A130
      clear A130
      try go_wp2
      replace HB := Aside0.mk (below_drew1 HB.out)
      have p325 : 0 ≤ (x5_1 : Int) := odt
      have q325 : x5_1 < (l0.length : Int) := odt
      obtain ⟨ad325, e325, hx325_0, hx325_1, hx325_2, hx325_3⟩ := at_T90 HR0.out x5_1 p325 q325
      have hw325_3 := hx325_3
      have hw325_2 := hx325_2
      have hw325_1 := hx325_1
      have hw325_0 := hx325_0
      obtain rfl : ad321 = ad325 := (by injection e325)
      replace hx325_0 := pw_cell_below HB.out hx325_0
      replace hx325_1 := pw_cell_below HB.out hx325_1
      replace hx325_2 := pw_cell_below HB.out hx325_2
      replace hx325_3 := pw_cell_below HB.out hx325_3
      replace p325 := eq_true p325
      replace q325 := eq_true q325
      refine start_ (n := 8) (S := fun w' => w'.cell? (ad321.add ((x5_1).toNat * 4)) = some (.string ((rd_T90 l0 x5_1).f0)) ∧ w'.cell? ⟨(ad321.add ((x5_1).toNat * 4)).block, (ad321.add ((x5_1).toNat * 4)).off + 1, none⟩ = some (.string ((rd_T90 l0 x5_1).f1)) ∧ w'.cell? ⟨(ad321.add ((x5_1).toNat * 4)).block, (ad321.add ((x5_1).toNat * 4)).off + 2, none⟩ = some (.string ((rd_T90 l0 x5_1).f2)) ∧ w'.cell? ⟨(ad321.add ((x5_1).toNat * 4)).block, (ad321.add ((x5_1).toNat * 4)).off + 3, none⟩ = some (.string ((rd_T90 l0 x5_1).f3))) (ds := []) #[false, false, false, false, false, false, false, false] (by kernel_rfl) rfl rfl ⟨(pw_cell_below HB.out hw325_0), (pw_cell_below HB.out hw325_1), (pw_cell_below HB.out hw325_2), (pw_cell_below HB.out hw325_3)⟩ (fun hHeld => ?_); refine with_tabW laws_heldAttrS.tab10 laws_heldAttrS.bits10 (fun HT_ HW_ => ?_)
      generalize w11.drew = w14 at HB hx325_0 hx325_1 hx325_2 hx325_3 hHeld ⊢
      refine pU 0 32 (tf 1 7) ?_
      refine pU 1 33 (tf 2 6) ?_
      refine pU 2 34 (tf 3 5) ?_
      refine pU 3 35 (tf 4 4) ?_
      refine pU 5 37 #[true, true, true, true, false, true, false, false] ?_
      refine take_ (i := 4) (N := some 36) (v := ?_) (a' := ?_) (tf 6 2) rfl rfl (take_ofW HT_.out HW_.out (by kernel_rfl)) (fun _ _ _ h => h) (Or.inl ⟨by rfl, ?_⟩) hHeld ?_ ?_
      rotate_left
      ·rintro w' ⟨s0, s1, s2, s3⟩
       go_simp
       with_reducible rfl
      rotate_left
      ·simp only [Act.put, sT, sZ, sS, i64_w, i32_w]
       rfl
      refine one_ (i := 6) (N := some 38) (tf 7 1) rfl rfl (one_of HT_.out (by kernel_rfl)) (by decide) (fun K hK => ?_)
      refine goes_ Try.func48 (by kernel_rfl) rfl #[.int .i64 (wrap64 ((wrap64 (x1_1 + 1)) + 1))] (by rfl) rfl rfl mA ?_
      with_reducible refine (laws_markText.calls k1 (wrap64 ((wrap64 (x1_1 + 1)) + 1)) t326 _ A13.out).mono ?_
      rintro e w15 ⟨rfl, hb⟩
      refine ⟨_, rfl, ?_⟩
      replace HB := Aside0.mk (below_step hB hb)
      (try clear hb)
      (try clear hb2)
      (try clear hk)
      (try clear hi)
      refine hK.out _ _ ⟨(pw_cell_below HB.out hw325_0), (pw_cell_below HB.out hw325_1), (pw_cell_below HB.out hw325_2), (pw_cell_below HB.out hw325_3)⟩ (fun hHeld => ?_)
      clear hK K
      refine norm_ (a' := ?_) ?_ ?_
      rotate_left
      ·show Act.put _ (some 38) _ = _
       simp only [Act.put, sT, sZ, sS, i64_w, i32_w]
       rfl
      refine pU 7 39 (tf 8 0) ?_
      refine done_ (done_of HT_.out (by kernel_rfl)) ?_
      by_cases c16 : ((rd_T90 l0 x5_1).f2).toList = t326.toList
      ·rw [if_pos c16] at H
       obtain ⟨c16b0, c16b1⟩ := eqT c16
       clear c16
       (first | rw [c16b0] | (simp only [i64_w, i32_w]; rw [c16b0]) | skip)
       replace H := Option.bind_eq_some_iff.mp H
       obtain ⟨t328, A170, H⟩ := H
       try dsimp only at H
       have A17 := Aside0.mk A170
       clear A170
       try go_wp2
       replace HB := Aside0.mk (below_drew1 HB.out)
       have p327 : 0 ≤ (x5_1 : Int) := odt
       have q327 : x5_1 < (l0.length : Int) := odt
       obtain ⟨ad327, e327, hx327_0, hx327_1, hx327_2, hx327_3⟩ := at_T90 HR0.out x5_1 p327 q327
       have hw327_3 := hx327_3
       have hw327_2 := hx327_2
       have hw327_1 := hx327_1
       have hw327_0 := hx327_0
       obtain rfl : ad321 = ad327 := (by injection e327)
       replace hx327_0 := pw_cell_below HB.out hx327_0
       replace hx327_1 := pw_cell_below HB.out hx327_1
       replace hx327_2 := pw_cell_below HB.out hx327_2
       replace hx327_3 := pw_cell_below HB.out hx327_3
       replace p327 := eq_true p327
       replace q327 := eq_true q327
       refine start_ (n := 8) (S := fun w' => w'.cell? (ad321.add ((x5_1).toNat * 4)) = some (.string ((rd_T90 l0 x5_1).f0)) ∧ w'.cell? ⟨(ad321.add ((x5_1).toNat * 4)).block, (ad321.add ((x5_1).toNat * 4)).off + 1, none⟩ = some (.string ((rd_T90 l0 x5_1).f1)) ∧ w'.cell? ⟨(ad321.add ((x5_1).toNat * 4)).block, (ad321.add ((x5_1).toNat * 4)).off + 2, none⟩ = some (.string ((rd_T90 l0 x5_1).f2)) ∧ w'.cell? ⟨(ad321.add ((x5_1).toNat * 4)).block, (ad321.add ((x5_1).toNat * 4)).off + 3, none⟩ = some (.string ((rd_T90 l0 x5_1).f3))) (ds := []) #[false, false, false, false, false, false, false, false] (by kernel_rfl) rfl rfl ⟨(pw_cell_below HB.out hw327_0), (pw_cell_below HB.out hw327_1), (pw_cell_below HB.out hw327_2), (pw_cell_below HB.out hw327_3)⟩ (fun hHeld => ?_); refine with_tabW laws_heldAttrS.tab13 laws_heldAttrS.bits13 (fun HT_ HW_ => ?_)
       generalize w15.drew = w18 at HB hx327_0 hx327_1 hx327_2 hx327_3 hHeld ⊢
       refine pU 0 42 (tf 1 7) ?_
       refine pU 1 43 (tf 2 6) ?_
       refine pU 2 44 (tf 3 5) ?_
       refine pU 3 45 (tf 4 4) ?_
       refine pU 5 47 #[true, true, true, true, false, true, false, false] ?_
       refine take_ (i := 4) (N := some 46) (v := ?_) (a' := ?_) (tf 6 2) rfl rfl (take_ofW HT_.out HW_.out (by kernel_rfl)) (fun _ _ _ h => h) (Or.inl ⟨by rfl, ?_⟩) hHeld ?_ ?_
       rotate_left
       ·rintro w' ⟨s0, s1, s2, s3⟩
        go_simp
        with_reducible rfl
       rotate_left
       ·simp only [Act.put, sT, sZ, sS, i64_w, i32_w]
        rfl
       refine one_ (i := 6) (N := some 48) (tf 7 1) rfl rfl (one_of HT_.out (by kernel_rfl)) (by decide) (fun K hK => ?_)
       refine goes_ Try.func48 (by kernel_rfl) rfl #[.int .i64 (wrap64 ((wrap64 ((wrap64 (x1_1 + 1)) + 1)) + 1))] (by rfl) rfl rfl mA ?_
       with_reducible refine (laws_markText.calls k1 (wrap64 ((wrap64 ((wrap64 (x1_1 + 1)) + 1)) + 1)) t328 _ A17.out).mono ?_
       rintro e w19 ⟨rfl, hb⟩
       refine ⟨_, rfl, ?_⟩
       replace HB := Aside0.mk (below_step hB hb)
       (try clear hb)
       (try clear hb2)
       (try clear hk)
       (try clear hi)
       refine hK.out _ _ ⟨(pw_cell_below HB.out hw327_0), (pw_cell_below HB.out hw327_1), (pw_cell_below HB.out hw327_2), (pw_cell_below HB.out hw327_3)⟩ (fun hHeld => ?_)
       clear hK K
       refine norm_ (a' := ?_) ?_ ?_
       rotate_left
       ·show Act.put _ (some 48) _ = _
        simp only [Act.put, sT, sZ, sS, i64_w, i32_w]
        rfl
       refine pU 7 49 (tf 8 0) ?_
       refine done_ (done_of HT_.out (by kernel_rfl)) ?_
       by_cases c20 : ((rd_T90 l0 x5_1).f3).toList = t328.toList
       ·rw [if_pos c20] at H
        obtain ⟨c20b0, c20b1⟩ := eqT c20
        clear c20
        (first | rw [c20b0] | (simp only [i64_w, i32_w]; rw [c20b0]) | skip)
        have H' := Aside0.mk H
        clear H
        go_wp2
        go_roundg k1
        case measure => have := HK1.out; omega
        case rel => exact ⟨(wrap64 ((wrap64 ((wrap64 ((wrap64 (x1_1 + 1)) + 1)) + 1)) + 1)), (wrap64 (x5_1 + 1)), rG, rG, H', ⟨by have := HK1.out; omega⟩, ⟨hB⟩⟩
       ·rw [if_neg c20] at H
        obtain ⟨c20b0, c20b1⟩ := eqF c20
        (first | rw [c20b0] | (simp only [i64_w, i32_w]; rw [c20b0]) | skip)
        obtain rfl := Option.some.inj H
        go_wp2
        go_ret
        exact ⟨rE, hB⟩
      ·rw [if_neg c16] at H
       obtain ⟨c16b0, c16b1⟩ := eqF c16
       (first | rw [c16b0] | (simp only [i64_w, i32_w]; rw [c16b0]) | skip)
       obtain rfl := Option.some.inj H
       go_wp2
       go_ret
       exact ⟨rE, hB⟩
     ·rw [if_neg c12] at H
      obtain ⟨c12b0, c12b1⟩ := eqF c12
      (first | rw [c12b0] | (simp only [i64_w, i32_w]; rw [c12b0]) | skip)
      obtain rfl := Option.some.inj H
      go_wp2
      go_ret
      exact ⟨rE, hB⟩
    ·rw [if_neg c8] at H
     obtain ⟨c8b0, c8b1⟩ := eqF c8
     (first | rw [c8b0] | (simp only [i64_w, i32_w]; rw [c8b0]) | skip)
     obtain rfl := Option.some.inj H
     go_wp2
     go_ret
     exact ⟨rE, hB⟩
   ·rw [if_neg c3] at H
    have c3b0 : decide (x5_1 < (l0.length : Int)) = false := decide_eq_false c3
    clear c3
    obtain rfl := Option.some.inj H
    go_wp2
    go_ret
    exact ⟨rE, hB⟩

end Go.Proofs.Ytdbinpeglamnnaa.PA
