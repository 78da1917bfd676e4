-- Written by the session's program hprint.py, over the kit's print program. Lean checks it.
import Derived.Test.YtglmahgliihkaaaPYx0
import Derived.Test.YtglmahgliihkaaaPYx9
import Derived.Test.YtglmahgliihkaaaPYx10
namespace Go.Proofs.Ytglmahgliihkaaa.PY
open Go.RowKit Go.Proofs.YtglmahgliihkaaaW.PrintWords Go.Proofs.YtglmahgliihkaaaW.PrintLast Go.Proofs.YtglmahgliihkaaaW.PrintMore
attribute [local go_sem] max2_int min2_int max_two min_two max_three min_three max_four min_four   -- for this text's walks alone
set_option linter.unusedVariables false
set_option linter.unusedSimpArgs false
set_option maxHeartbeats 8000000
set_option maxRecDepth 100000

/-! ### laws_heldNodeS: function 39 -/
mutual
def laws_heldNodeS.l0 : Nat → List (S34) → Int → Int → Option (Int)
 | 0, _, _, _ => none
 | k + 1, x0, x1, x5 => if x5 < (x0.length : Int) then (if 0 ≤ x5 then (if ((rd_T34 x0 x5).f0) = x1 then ((laws_markText.f k (wrap64 (x1 + 1))).bind fun t476 => (if ((rd_T34 x0 x5).f1).toList = t476.toList then ((laws_markText.f k (wrap64 ((wrap64 (x1 + 1)) + 1))).bind fun t478 => (if ((rd_T34 x0 x5).f2).toList = t478.toList then ((laws_markText.f k (wrap64 ((wrap64 ((wrap64 (x1 + 1)) + 1)) + 1))).bind fun t480 => (if ((rd_T34 x0 x5).f3).toList = t480.toList then ((laws_heldDeclS.f k ((rd_T34 x0 x5).f4) (wrap64 ((wrap64 ((wrap64 ((wrap64 (x1 + 1)) + 1)) + 1)) + 1))).bind fun t482 => (if t482 < 0 then (some (-1)) else ((laws_heldAttrS.f k ((rd_T34 x0 x5).f5) t482).bind fun t484 => (if t484 < 0 then (some (-1)) else ((laws_heldNodeS.f k ((rd_T34 x0 x5).f6) t484).bind fun t486 => (if t486 < 0 then (some (-1)) else ((laws_markText.f k t486).bind fun t488 => (if ((rd_T34 x0 x5).f7).toList = t488.toList then (laws_heldNodeS.l0 k x0 (wrap64 (t486 + 1)) (wrap64 (x5 + 1))) else (some (-1)))))))))) else (some (-1)))) else (some (-1)))) else (some (-1)))) else (some (-1))) else (none)) else (some x1)
def laws_heldNodeS.f : Nat → List (S34) → Int → Option (Int)
 | 0, _, _ => none
 | k + 1, l0, a1 => laws_heldNodeS.l0 k l0 a1 0
end
def laws_heldNodeS.T7 : Bool × List (List Nat × List Nat) := (true, [([], []), ([], []), ([0, 1], [0, 1]), ([2], [2]), ([3], [3]), ([], []), ([5], [5]), ([4, 6], [4, 6])])
def laws_heldNodeS.B7 : List Nat := [0, 0, 3, 7, 15, 0, 32, 127]
theorem laws_heldNodeS.tab7 : rtab .any (opsOf Try.f39 7) = laws_heldNodeS.T7 := by kernel_rfl
theorem laws_heldNodeS.bits7 : waitsOk laws_heldNodeS.T7.2 laws_heldNodeS.B7 = true := by kernel_rfl
def laws_heldNodeS.T10 : Bool × List (List Nat × List Nat) := (true, [([], []), ([], []), ([0, 1], [0, 1]), ([2], [2]), ([3], [3]), ([], []), ([5], [5]), ([4, 6], [4, 6])])
def laws_heldNodeS.B10 : List Nat := [0, 0, 3, 7, 15, 0, 32, 127]
theorem laws_heldNodeS.tab10 : rtab .any (opsOf Try.f39 10) = laws_heldNodeS.T10 := by kernel_rfl
theorem laws_heldNodeS.bits10 : waitsOk laws_heldNodeS.T10.2 laws_heldNodeS.B10 = true := by kernel_rfl
def laws_heldNodeS.T13 : Bool × List (List Nat × List Nat) := (true, [([], []), ([], []), ([0, 1], [0, 1]), ([2], [2]), ([3], [3]), ([], []), ([5], [5]), ([4, 6], [4, 6])])
def laws_heldNodeS.B13 : List Nat := [0, 0, 3, 7, 15, 0, 32, 127]
theorem laws_heldNodeS.tab13 : rtab .any (opsOf Try.f39 13) = laws_heldNodeS.T13 := by kernel_rfl
theorem laws_heldNodeS.bits13 : waitsOk laws_heldNodeS.T13.2 laws_heldNodeS.B13 = true := by kernel_rfl
def laws_heldNodeS.T25 : Bool × List (List Nat × List Nat) := (true, [([], []), ([], []), ([0, 1], [0, 1]), ([2], [2]), ([3], [3]), ([], []), ([5], [5]), ([4, 6], [4, 6])])
def laws_heldNodeS.B25 : List Nat := [0, 0, 3, 7, 15, 0, 32, 127]
theorem laws_heldNodeS.tab25 : rtab .any (opsOf Try.f39 25) = laws_heldNodeS.T25 := by kernel_rfl
theorem laws_heldNodeS.bits25 : waitsOk laws_heldNodeS.T25.2 laws_heldNodeS.B25 = true := by kernel_rfl
theorem laws_heldNodeS.calls (k : Nat) : ∀ (A0 : Option Addr) (c0 : Nat) (l0 : List (S34)) (a1 : Int) (r : Int) (w : World) (hr0 : Kd.C k34 w A0 l0.length l0) (hc0 : l0.length ≤ c0) (h : laws_heldNodeS.f k l0 a1 = some r),
  Calls Try.prog 39 #[.slice A0 l0.length c0, .int .i64 a1] w fun e w' => e = .returned (.int .i64 r) ∧ Below w.heap.size w w' := by
 induction k using Nat.strongRecOn with
 | _ k ih =>
 intro A0 c0 l0 a1 r w hr0 hc0 h
 cases k with
 | zero => exact absurd h (by simp [laws_heldNodeS.f])
 | succ k =>
 simp only [laws_heldNodeS.f] at h
 have HR0 := Aside0.mk hr0
 have HC0 := Aside0.mk hc0
 clear hr0 hc0
 have HB := Aside0.mk (Below.refl w.heap.size w)
 have H : (laws_heldNodeS.l0 k l0 a1 0) = some r := h
 clear h
 have H' := Aside0.mk H
 clear H
 go_enter Try.func39, Try.ntmps39
 go_wp2
 go_loopg [1, 5] k (fun kq v1 v5 w' => ∃ (x1_1 : Int) (x5_1 : Int), v1 = .int .i64 x1_1 ∧ v5 = .int .i64 x5_1 ∧ Aside0 (laws_heldNodeS.l0 kq l0 x1_1 x5_1 = some r) ∧ Aside0 (kq ≤ k) ∧ Aside0 (Below w.heap.size w w'))
 case atStart => exact ⟨(a1), (0), rG, rG, H', ⟨Nat.le_refl _⟩, ⟨hB⟩⟩
 case round =>
  clear H'
  obtain ⟨x1_1, x5_1, rfl, rfl, HA, HK1, HB⟩ := hrel
  cases gk with
  | zero => exact absurd HA.out (by simp [laws_heldNodeS.l0])
  | succ k1 =>
   have H := HA.out
   clear HA
   simp only [laws_heldNodeS.l0] at H
   by_cases c3 : x5_1 < (l0.length : Int)
   ·rw [if_pos c3] at H
    have c3b0 : decide (x5_1 < (l0.length : Int)) = true := decide_eq_true c3
    clear c3
    obtain ⟨c4, H⟩ := if_som H
    have c4b0 : decide (0 ≤ x5_1) = true := decide_eq_true c4
    clear c4
    by_cases c5 : ((rd_T34 l0 x5_1).f0) = x1_1
    ·rw [if_pos c5] at H
     obtain ⟨c5b0, c5b1⟩ := eqT c5
     clear c5
     replace H := Option.bind_eq_some_iff.mp H
     obtain ⟨t476, A60, H⟩ := H
     try dsimp only at H
     have A6 := Aside0.mk A60
     clear A60
     have p474 : 0 ≤ (x5_1 : Int) := odt
     have q474 : x5_1 < (l0.length : Int) := odt
     obtain ⟨ad474, A474_4, c474_4, A474_5, c474_5, A474_6, c474_6, e474, hx474_0, hx474_1, hx474_2, hx474_3, hx474_4, hx474_5, hx474_6, hx474_7, hl474_4, hi474_4, hl474_5, hi474_5, hl474_6, hi474_6⟩ := at_T34 HR0.out x5_1 p474 q474
     cases e474
     replace hx474_0 := pw_cell_below HB.out hx474_0
     replace hx474_1 := pw_cell_below HB.out hx474_1
     replace hx474_2 := pw_cell_below HB.out hx474_2
     replace hx474_3 := pw_cell_below HB.out hx474_3
     replace hx474_4 := pw_cell_below HB.out hx474_4
     replace hx474_5 := pw_cell_below HB.out hx474_5
     replace hx474_6 := pw_cell_below HB.out hx474_6
     replace hx474_7 := pw_cell_below HB.out hx474_7
     have HR474_4 := Aside0.mk hi474_4
     have HC474_4 := Aside0.mk hl474_4
     clear hi474_4 hl474_4
     have HR474_5 := Aside0.mk hi474_5
     have HC474_5 := Aside0.mk hl474_5
     clear hi474_5 hl474_5
     have HR474_6 := Aside0.mk hi474_6
     have HC474_6 := Aside0.mk hl474_6
     clear hi474_6 hl474_6
     replace p474 := eq_true p474
     replace q474 := eq_true q474
     try go_wp2
     replace HB := Aside0.mk (below_drew1 HB.out)
     have p475 : 0 ≤ (x5_1 : Int) := odt
     have q475 : x5_1 < (l0.length : Int) := odt
     obtain ⟨ad475, A475_4, c475_4, A475_5, c475_5, A475_6, c475_6, e475, hx475_0, hx475_1, hx475_2, hx475_3, hx475_4, hx475_5, hx475_6, hx475_7, hl475_4, hi475_4, hl475_5, hi475_5, hl475_6, hi475_6⟩ := at_T34 HR0.out x5_1 p475 q475
     have hw475_7 := hx475_7
     have hw475_6 := hx475_6
     have hw475_5 := hx475_5
     have hw475_4 := hx475_4
     have hw475_3 := hx475_3
     have hw475_2 := hx475_2
     have hw475_1 := hx475_1
     have hw475_0 := hx475_0
     obtain rfl : ad474 = ad475 := (by injection e475)
     replace hx475_0 := pw_cell_below HB.out hx475_0
     replace hx475_1 := pw_cell_below HB.out hx475_1
     replace hx475_2 := pw_cell_below HB.out hx475_2
     replace hx475_3 := pw_cell_below HB.out hx475_3
     replace hx475_4 := pw_cell_below HB.out hx475_4
     replace hx475_5 := pw_cell_below HB.out hx475_5
     replace hx475_6 := pw_cell_below HB.out hx475_6
     replace hx475_7 := pw_cell_below HB.out hx475_7
     have HR475_4 := Aside0.mk hi475_4
     have HC475_4 := Aside0.mk hl475_4
     clear hi475_4 hl475_4
     have HR475_5 := Aside0.mk hi475_5
     have HC475_5 := Aside0.mk hl475_5
     clear hi475_5 hl475_5
     have HR475_6 := Aside0.mk hi475_6
     have HC475_6 := Aside0.mk hl475_6
     clear hi475_6 hl475_6
     replace p475 := eq_true p475
     replace q475 := eq_true q475
     refine start_ (n := 8) (S := fun w' => w'.cell? (ad474.add ((x5_1).toNat * 8)) = some (.int .i64 ((rd_T34 l0 x5_1).f0)) ∧ w'.cell? ⟨(ad474.add ((x5_1).toNat * 8)).block, (ad474.add ((x5_1).toNat * 8)).off + 1, none⟩ = some (.string ((rd_T34 l0 x5_1).f1)) ∧ w'.cell? ⟨(ad474.add ((x5_1).toNat * 8)).block, (ad474.add ((x5_1).toNat * 8)).off + 2, none⟩ = some (.string ((rd_T34 l0 x5_1).f2)) ∧ w'.cell? ⟨(ad474.add ((x5_1).toNat * 8)).block, (ad474.add ((x5_1).toNat * 8)).off + 3, none⟩ = some (.string ((rd_T34 l0 x5_1).f3)) ∧ w'.cell? ⟨(ad474.add ((x5_1).toNat * 8)).block, (ad474.add ((x5_1).toNat * 8)).off + 4, none⟩ = some (.slice A475_4 ((rd_T34 l0 x5_1).f4).length c475_4) ∧ w'.cell? ⟨(ad474.add ((x5_1).toNat * 8)).block, (ad474.add ((x5_1).toNat * 8)).off + 5, none⟩ = some (.slice A475_5 ((rd_T34 l0 x5_1).f5).length c475_5) ∧ w'.cell? ⟨(ad474.add ((x5_1).toNat * 8)).block, (ad474.add ((x5_1).toNat * 8)).off + 6, none⟩ = some (.slice A475_6 ((rd_T34 l0 x5_1).f6).length c475_6) ∧ w'.cell? ⟨(ad474.add ((x5_1).toNat * 8)).block, (ad474.add ((x5_1).toNat * 8)).off + 7, none⟩ = some (.string ((rd_T34 l0 x5_1).f7))) (ds := []) #[false, false, false, false, false, false, false, false] (by kernel_rfl) rfl rfl ⟨(pw_cell_below HB.out hw475_0), (pw_cell_below HB.out hw475_1), (pw_cell_below HB.out hw475_2), (pw_cell_below HB.out hw475_3), (pw_cell_below HB.out hw475_4), (pw_cell_below HB.out hw475_5), (pw_cell_below HB.out hw475_6), (pw_cell_below HB.out hw475_7)⟩ (fun hHeld => ?_); refine with_tabW laws_heldNodeS.tab7 laws_heldNodeS.bits7 (fun HT_ HW_ => ?_)
     generalize wr.drew = w7 at HB HR475_4 HR475_5 HR475_6 hx475_0 hx475_1 hx475_2 hx475_3 hx475_4 hx475_5 hx475_6 hx475_7 hHeld ⊢
     refine pU 0 21 (tf 1 7) ?_
     refine pU 1 22 (tf 2 6) ?_
     refine pU 2 23 (tf 3 5) ?_
     refine pU 3 24 (tf 4 4) ?_
     refine pU 5 26 #[true, true, true, true, false, true, false, false] ?_
     refine take_ (i := 4) (N := some 25) (v := ?_) (a' := ?_) (tf 6 2) rfl rfl (take_ofW HT_.out HW_.out (by kernel_rfl)) (fun _ _ _ h => h) (Or.inl ⟨by rfl, ?_⟩) hHeld ?_ ?_
     rotate_left
     ·rintro w' ⟨s0, s1, s2, s3, s4, s5, s6, s7⟩
      go_simp
      with_reducible rfl
     rotate_left
     ·simp only [Act.put, sT, sZ, sS, i64_w, i32_w]
      rfl
     refine one_ (i := 6) (N := some 27) (tf 7 1) rfl rfl (one_of HT_.out (by kernel_rfl)) (by decide) (fun K hK => ?_)
     refine goes_ Try.func36 (by kernel_rfl) rfl #[.int .i64 (wrap64 (x1_1 + 1))] (by rfl) rfl rfl mA ?_
     with_reducible refine (laws_markText.calls k1 (wrap64 (x1_1 + 1)) t476 _ A6.out).mono ?_
     rintro e w8 ⟨rfl, hb⟩
     refine ⟨_, rfl, ?_⟩
     replace HB := Aside0.mk (below_step hB hb)
     (try clear hb)
     (try clear hb2)
     (try clear hk)
     (try clear hi)
     refine hK.out _ _ ⟨(pw_cell_below HB.out hw475_0), (pw_cell_below HB.out hw475_1), (pw_cell_below HB.out hw475_2), (pw_cell_below HB.out hw475_3), (pw_cell_below HB.out hw475_4), (pw_cell_below HB.out hw475_5), (pw_cell_below HB.out hw475_6), (pw_cell_below HB.out hw475_7)⟩ (fun hHeld => ?_)
     clear hK K
     refine norm_ (a' := ?_) ?_ ?_
     rotate_left
     ·show Act.put _ (some 27) _ = _
      simp only [Act.put, sT, sZ, sS, i64_w, i32_w]
      rfl
     refine pU 7 28 (tf 8 0) ?_
     refine done_ (done_of HT_.out (by kernel_rfl)) ?_
     by_cases c9 : ((rd_T34 l0 x5_1).f1).toList = t476.toList
     ·rw [if_pos c9] at H
      obtain ⟨c9b0, c9b1⟩ := eqT c9
      clear c9
      (first | rw [c9b0] | (simp only [i64_w, i32_w]; rw [c9b0]) | skip)
      replace H := Option.bind_eq_some_iff.mp H
      obtain ⟨t478, A100, H⟩ := H
      try dsimp only at H
      have A10 := Aside0.mk A100
      clear A100
      try go_wp2
      replace HB := Aside0.mk (below_drew1 HB.out)
      have p477 : 0 ≤ (x5_1 : Int) := odt
      have q477 : x5_1 < (l0.length : Int) := odt
      obtain ⟨ad477, A477_4, c477_4, A477_5, c477_5, A477_6, c477_6, e477, hx477_0, hx477_1, hx477_2, hx477_3, hx477_4, hx477_5, hx477_6, hx477_7, hl477_4, hi477_4, hl477_5, hi477_5, hl477_6, hi477_6⟩ := at_T34 HR0.out x5_1 p477 q477
      have hw477_7 := hx477_7
      have hw477_6 := hx477_6
      have hw477_5 := hx477_5
      have hw477_4 := hx477_4
      have hw477_3 := hx477_3
      have hw477_2 := hx477_2
      have hw477_1 := hx477_1
      have hw477_0 := hx477_0
      obtain rfl : ad474 = ad477 := (by injection e477)
      replace hx477_0 := pw_cell_below HB.out hx477_0
      replace hx477_1 := pw_cell_below HB.out hx477_1
      replace hx477_2 := pw_cell_below HB.out hx477_2
      replace hx477_3 := pw_cell_below HB.out hx477_3
      replace hx477_4 := pw_cell_below HB.out hx477_4
      replace hx477_5 := pw_cell_below HB.out hx477_5
      replace hx477_6 := pw_cell_below HB.out hx477_6
      replace hx477_7 := pw_cell_below HB.out hx477_7
      have HR477_4 := Aside0.mk hi477_4
      have HC477_4 := Aside0.mk hl477_4
      clear hi477_4 hl477_4
      have HR477_5 := Aside0.mk hi477_5
      have HC477_5 := Aside0.mk hl477_5
      clear hi477_5 hl477_5
      have HR477_6 := Aside0.mk hi477_6
      have HC477_6 := Aside0.mk hl477_6
      clear hi477_6 hl477_6
      replace p477 := eq_true p477
      replace q477 := eq_true q477
      refine start_ (n := 8) (S := fun w' => w'.cell? (ad474.add ((x5_1).toNat * 8)) = some (.int .i64 ((rd_T34 l0 x5_1).f0)) ∧ w'.cell? ⟨(ad474.add ((x5_1).toNat * 8)).block, (ad474.add ((x5_1).toNat * 8)).off + 1, none⟩ = some (.string ((rd_T34 l0 x5_1).f1)) ∧ w'.cell? ⟨(ad474.add ((x5_1).toNat * 8)).block, (ad474.add ((x5_1).toNat * 8)).off + 2, none⟩ = some (.string ((rd_T34 l0 x5_1).f2)) ∧ w'.cell? ⟨(ad474.add ((x5_1).toNat * 8)).block, (ad474.add ((x5_1).toNat * 8)).off + 3, none⟩ = some (.string ((rd_T34 l0 x5_1).f3)) ∧ w'.cell? ⟨(ad474.add ((x5_1).toNat * 8)).block, (ad474.add ((x5_1).toNat * 8)).off + 4, none⟩ = some (.slice A477_4 ((rd_T34 l0 x5_1).f4).length c477_4) ∧ w'.cell? ⟨(ad474.add ((x5_1).toNat * 8)).block, (ad474.add ((x5_1).toNat * 8)).off + 5, none⟩ = some (.slice A477_5 ((rd_T34 l0 x5_1).f5).length c477_5) ∧ w'.cell? ⟨(ad474.add ((x5_1).toNat * 8)).block, (ad474.add ((x5_1).toNat * 8)).off + 6, none⟩ = some (.slice A477_6 ((rd_T34 l0 x5_1).f6).length c477_6) ∧ w'.cell? ⟨(ad474.add ((x5_1).toNat * 8)).block, (ad474.add ((x5_1).toNat * 8)).off + 7, none⟩ = some (.string ((rd_T34 l0 x5_1).f7))) (ds := []) #[false, false, false, false, false, false, false, false] (by kernel_rfl) rfl rfl ⟨(pw_cell_below HB.out hw477_0), (pw_cell_below HB.out hw477_1), (pw_cell_below HB.out hw477_2), (pw_cell_below HB.out hw477_3), (pw_cell_below HB.out hw477_4), (pw_cell_below HB.out hw477_5), (pw_cell_below HB.out hw477_6), (pw_cell_below HB.out hw477_7)⟩ (fun hHeld => ?_); refine with_tabW laws_heldNodeS.tab10 laws_heldNodeS.bits10 (fun HT_ HW_ => ?_)
      generalize w8.drew = w11 at HB HR477_4 HR477_5 HR477_6 hx477_0 hx477_1 hx477_2 hx477_3 hx477_4 hx477_5 hx477_6 hx477_7 hHeld ⊢
      refine pU 0 31 (tf 1 7) ?_
      refine pU 1 32 (tf 2 6) ?_
      refine pU 2 33 (tf 3 5) ?_
      refine pU 3 34 (tf 4 4) ?_
      refine pU 5 36 #[true, true, true, true, false, true, false, false] ?_
      refine take_ (i := 4) (N := some 35) (v := ?_) (a' := ?_) (tf 6 2) rfl rfl (take_ofW HT_.out HW_.out (by kernel_rfl)) (fun _ _ _ h => h) (Or.inl ⟨by rfl, ?_⟩) hHeld ?_ ?_
      rotate_left
      ·rintro w' ⟨s0, s1, s2, s3, s4, s5, s6, s7⟩
       go_simp
       with_reducible rfl
      rotate_left
      ·simp only [Act.put, sT, sZ, sS, i64_w, i32_w]
       rfl
      refine one_ (i := 6) (N := some 37) (tf 7 1) rfl rfl (one_of HT_.out (by kernel_rfl)) (by decide) (fun K hK => ?_)
      refine goes_ Try.func36 (by kernel_rfl) rfl #[.int .i64 (wrap64 ((wrap64 (x1_1 + 1)) + 1))] (by rfl) rfl rfl mA ?_
      with_reducible refine (laws_markText.calls k1 (wrap64 ((wrap64 (x1_1 + 1)) + 1)) t478 _ A10.out).mono ?_
      rintro e w12 ⟨rfl, hb⟩
      refine ⟨_, rfl, ?_⟩
      replace HB := Aside0.mk (below_step hB hb)
      (try clear hb)
      (try clear hb2)
      (try clear hk)
      (try clear hi)
      refine hK.out _ _ ⟨(pw_cell_below HB.out hw477_0), (pw_cell_below HB.out hw477_1), (pw_cell_below HB.out hw477_2), (pw_cell_below HB.out hw477_3), (pw_cell_below HB.out hw477_4), (pw_cell_below HB.out hw477_5), (pw_cell_below HB.out hw477_6), (pw_cell_below HB.out hw477_7)⟩ (fun hHeld => ?_)
      clear hK K
      refine norm_ (a' := ?_) ?_ ?_
      rotate_left
      ·show Act.put _ (some 37) _ = _
       simp only [Act.put, sT, sZ, sS, i64_w, i32_w]
       rfl
      refine pU 7 38 (tf 8 0) ?_
      refine done_ (done_of HT_.out (by kernel_rfl)) ?_
      by_cases c13 : ((rd_T34 l0 x5_1).f2).toList = t478.toList
      ·rw [if_pos c13] at H
       obtain ⟨c13b0, c13b1⟩ := eqT c13
       clear c13
       (first | rw [c13b0] | (simp only [i64_w, i32_w]; rw [c13b0]) | skip)
       replace H := Option.bind_eq_some_iff.mp H
       obtain ⟨t480, A140, H⟩ := H
       try dsimp only at H
       have A14 := Aside0.mk A140
       clear A140
       try go_wp2
       replace HB := Aside0.mk (below_drew1 HB.out)
       have p479 : 0 ≤ (x5_1 : Int) := odt
       have q479 : x5_1 < (l0.length : Int) := odt
       obtain ⟨ad479, A479_4, c479_4, A479_5, c479_5, A479_6, c479_6, e479, hx479_0, hx479_1, hx479_2, hx479_3, hx479_4, hx479_5, hx479_6, hx479_7, hl479_4, hi479_4, hl479_5, hi479_5, hl479_6, hi479_6⟩ := at_T34 HR0.out x5_1 p479 q479
       have hw479_7 := hx479_7
       have hw479_6 := hx479_6
       have hw479_5 := hx479_5
       have hw479_4 := hx479_4
       have hw479_3 := hx479_3
       have hw479_2 := hx479_2
       have hw479_1 := hx479_1
       have hw479_0 := hx479_0
       obtain rfl : ad474 = ad479 := (by injection e479)
       replace hx479_0 := pw_cell_below HB.out hx479_0
       replace hx479_1 := pw_cell_below HB.out hx479_1
       replace hx479_2 := pw_cell_below HB.out hx479_2
       replace hx479_3 := pw_cell_below HB.out hx479_3
       replace hx479_4 := pw_cell_below HB.out hx479_4
       replace hx479_5 := pw_cell_below HB.out hx479_5
       replace hx479_6 := pw_cell_below HB.out hx479_6
       replace hx479_7 := pw_cell_below HB.out hx479_7
       have HR479_4 := Aside0.mk hi479_4
       have HC479_4 := Aside0.mk hl479_4
       clear hi479_4 hl479_4
       have HR479_5 := Aside0.mk hi479_5
       have HC479_5 := Aside0.mk hl479_5
       clear hi479_5 hl479_5
       have HR479_6 := Aside0.mk hi479_6
       have HC479_6 := Aside0.mk hl479_6
       clear hi479_6 hl479_6
       replace p479 := eq_true p479
       replace q479 := eq_true q479
       refine start_ (n := 8) (S := fun w' => w'.cell? (ad474.add ((x5_1).toNat * 8)) = some (.int .i64 ((rd_T34 l0 x5_1).f0)) ∧ w'.cell? ⟨(ad474.add ((x5_1).toNat * 8)).block, (ad474.add ((x5_1).toNat * 8)).off + 1, none⟩ = some (.string ((rd_T34 l0 x5_1).f1)) ∧ w'.cell? ⟨(ad474.add ((x5_1).toNat * 8)).block, (ad474.add ((x5_1).toNat * 8)).off + 2, none⟩ = some (.string ((rd_T34 l0 x5_1).f2)) ∧ w'.cell? ⟨(ad474.add ((x5_1).toNat * 8)).block, (ad474.add ((x5_1).toNat * 8)).off + 3, none⟩ = some (.string ((rd_T34 l0 x5_1).f3)) ∧ w'.cell? ⟨(ad474.add ((x5_1).toNat * 8)).block, (ad474.add ((x5_1).toNat * 8)).off + 4, none⟩ = some (.slice A479_4 ((rd_T34 l0 x5_1).f4).length c479_4) ∧ w'.cell? ⟨(ad474.add ((x5_1).toNat * 8)).block, (ad474.add ((x5_1).toNat * 8)).off + 5, none⟩ = some (.slice A479_5 ((rd_T34 l0 x5_1).f5).length c479_5) ∧ w'.cell? ⟨(ad474.add ((x5_1).toNat * 8)).block, (ad474.add ((x5_1).toNat * 8)).off + 6, none⟩ = some (.slice A479_6 ((rd_T34 l0 x5_1).f6).length c479_6) ∧ w'.cell? ⟨(ad474.add ((x5_1).toNat * 8)).block, (ad474.add ((x5_1).toNat * 8)).off + 7, none⟩ = some (.string ((rd_T34 l0 x5_1).f7))) (ds := []) #[false, false, false, false, false, false, false, false] (by kernel_rfl) rfl rfl ⟨(pw_cell_below HB.out hw479_0), (pw_cell_below HB.out hw479_1), (pw_cell_below HB.out hw479_2), (pw_cell_below HB.out hw479_3), (pw_cell_below HB.out hw479_4), (pw_cell_below HB.out hw479_5), (pw_cell_below HB.out hw479_6), (pw_cell_below HB.out hw479_7)⟩ (fun hHeld => ?_); refine with_tabW laws_heldNodeS.tab13 laws_heldNodeS.bits13 (fun HT_ HW_ => ?_)
       generalize w12.drew = w15 at HB HR479_4 HR479_5 HR479_6 hx479_0 hx479_1 hx479_2 hx479_3 hx479_4 hx479_5 hx479_6 hx479_7 hHeld ⊢
       refine pU 0 41 (tf 1 7) ?_
       refine pU 1 42 (tf 2 6) ?_
       refine pU 2 43 (tf 3 5) ?_
       refine pU 3 44 (tf 4 4) ?_
       refine pU 5 46 #[true, true, true, true, false, true, false, false] ?_
       refine take_ (i := 4) (N := some 45) (v := ?_) (a' := ?_) (tf 6 2) rfl rfl (take_ofW HT_.out HW_.out (by kernel_rfl)) (fun _ _ _ h => h) (Or.inl ⟨by rfl, ?_⟩) hHeld ?_ ?_
       rotate_left
       ·rintro w' ⟨s0, s1, s2, s3, s4, s5, s6, s7⟩
        go_simp
        with_reducible rfl
       rotate_left
       ·simp only [Act.put, sT, sZ, sS, i64_w, i32_w]
        rfl
       refine one_ (i := 6) (N := some 47) (tf 7 1) rfl rfl (one_of HT_.out (by kernel_rfl)) (by decide) (fun K hK => ?_)
       refine goes_ Try.func36 (by kernel_rfl) rfl #[.int .i64 (wrap64 ((wrap64 ((wrap64 (x1_1 + 1)) + 1)) + 1))] (by rfl) rfl rfl mA ?_
       with_reducible refine (laws_markText.calls k1 (wrap64 ((wrap64 ((wrap64 (x1_1 + 1)) + 1)) + 1)) t480 _ A14.out).mono ?_
       rintro e w16 ⟨rfl, hb⟩
       refine ⟨_, rfl, ?_⟩
       replace HB := Aside0.mk (below_step hB hb)
       (try clear hb)
       (try clear hb2)
       (try clear hk)
       (try clear hi)
       refine hK.out _ _ ⟨(pw_cell_below HB.out hw479_0), (pw_cell_below HB.out hw479_1), (pw_cell_below HB.out hw479_2), (pw_cell_below HB.out hw479_3), (pw_cell_below HB.out hw479_4), (pw_cell_below HB.out hw479_5), (pw_cell_below HB.out hw479_6), (pw_cell_below HB.out hw479_7)⟩ (fun hHeld => ?_)
       clear hK K
       refine norm_ (a' := ?_) ?_ ?_
       rotate_left
       ·show Act.put _ (some 47) _ = _
        simp only [Act.put, sT, sZ, sS, i64_w, i32_w]
        rfl
       refine pU 7 48 (tf 8 0) ?_
       refine done_ (done_of HT_.out (by kernel_rfl)) ?_
       by_cases c17 : ((rd_T34 l0 x5_1).f3).toList = t480.toList
       ·rw [if_pos c17] at H
        obtain ⟨c17b0, c17b1⟩ := eqT c17
        clear c17
        (first | rw [c17b0] | (simp only [i64_w, i32_w]; rw [c17b0]) | skip)
        replace H := Option.bind_eq_some_iff.mp H
        obtain ⟨t482, A180, H⟩ := H
        try dsimp only at H
        have A18 := Aside0.mk A180
        clear A180
        have p481 : 0 ≤ (x5_1 : Int) := odt
        have q481 : x5_1 < (l0.length : Int) := odt
        obtain ⟨ad481, A481_4, c481_4, A481_5, c481_5, A481_6, c481_6, e481, hx481_0, hx481_1, hx481_2, hx481_3, hx481_4, hx481_5, hx481_6, hx481_7, hl481_4, hi481_4, hl481_5, hi481_5, hl481_6, hi481_6⟩ := at_T34 HR0.out x5_1 p481 q481
        obtain rfl : ad474 = ad481 := (by injection e481)
        replace hx481_0 := pw_cell_below HB.out hx481_0
        replace hx481_1 := pw_cell_below HB.out hx481_1
        replace hx481_2 := pw_cell_below HB.out hx481_2
        replace hx481_3 := pw_cell_below HB.out hx481_3
        replace hx481_4 := pw_cell_below HB.out hx481_4
        replace hx481_5 := pw_cell_below HB.out hx481_5
        replace hx481_6 := pw_cell_below HB.out hx481_6
        replace hx481_7 := pw_cell_below HB.out hx481_7
        have HR481_4 := Aside0.mk hi481_4
        have HC481_4 := Aside0.mk hl481_4
        clear hi481_4 hl481_4
        have HR481_5 := Aside0.mk hi481_5
        have HC481_5 := Aside0.mk hl481_5
        clear hi481_5 hl481_5
        have HR481_6 := Aside0.mk hi481_6
        have HC481_6 := Aside0.mk hl481_6
        clear hi481_6 hl481_6
        replace p481 := eq_true p481
        replace q481 := eq_true q481
        try clear hHeld
        go_wp2_with (first | ((with_reducible refine gate_callee (f := 37) rfl ?_); refine goesL_ (some 57) rfl rfl Try.func37 (by kernel_rfl) rfl #[.slice A481_4 ((rd_T34 l0 x5_1).f4).length c481_4, .int .i64 (wrap64 ((wrap64 ((wrap64 ((wrap64 (x1_1 + 1)) + 1)) + 1)) + 1))] rfl mA ?_; (with_reducible refine (laws_heldDeclS.calls k1 _ _ ((rd_T34 l0 x5_1).f4) (wrap64 ((wrap64 ((wrap64 ((wrap64 (x1_1 + 1)) + 1)) + 1)) + 1)) t482 _ ?side1 ?side2 A18.out).mono ?_); (case side1 => repeat (first | exact (Kd.C_below HR481_4.out HB.out) | (with_reducible refine Kd.C_alloc ?_ _) | (with_reducible refine Kd.C_drewN ?_ _) | (with_reducible refine Kd.C_drew ?_))); (case side2 => exact HC481_4.out); rintro e w19 ⟨rfl, hb⟩; refine ⟨_, rfl, ?_⟩; replace HB := Aside0.mk (below_step hB hb); (try clear hb); (try clear hb2); (try clear hk); (try clear hi); refine halt_ ?_; intro q_ hq_))
        obtain ⟨rfl⟩ := hq_
        by_cases c20 : t482 < 0
        ·rw [if_pos c20] at H
         have c20b0 : decide (t482 < 0) = true := decide_eq_true c20
         clear c20
         obtain rfl := Option.some.inj H
         go_wp2
         go_ret
         exact ⟨rE, hB⟩
        ·rw [if_neg c20] at H
         have c20b0 : decide (t482 < 0) = false := decide_eq_false c20
         clear c20
         replace H := Option.bind_eq_some_iff.mp H
         obtain ⟨t484, A210, H⟩ := H
         try dsimp only at H
         have A21 := Aside0.mk A210
         clear A210
         have p483 : 0 ≤ (x5_1 : Int) := odt
         have q483 : x5_1 < (l0.length : Int) := odt
         obtain ⟨ad483, A483_4, c483_4, A483_5, c483_5, A483_6, c483_6, e483, hx483_0, hx483_1, hx483_2, hx483_3, hx483_4, hx483_5, hx483_6, hx483_7, hl483_4, hi483_4, hl483_5, hi483_5, hl483_6, hi483_6⟩ := at_T34 HR0.out x5_1 p483 q483
         obtain rfl : ad474 = ad483 := (by injection e483)
         replace hx483_0 := pw_cell_below HB.out hx483_0
         replace hx483_1 := pw_cell_below HB.out hx483_1
         replace hx483_2 := pw_cell_below HB.out hx483_2
         replace hx483_3 := pw_cell_below HB.out hx483_3
         replace hx483_4 := pw_cell_below HB.out hx483_4
         replace hx483_5 := pw_cell_below HB.out hx483_5
         replace hx483_6 := pw_cell_below HB.out hx483_6
         replace hx483_7 := pw_cell_below HB.out hx483_7
         have HR483_4 := Aside0.mk hi483_4
         have HC483_4 := Aside0.mk hl483_4
         clear hi483_4 hl483_4
         have HR483_5 := Aside0.mk hi483_5
         have HC483_5 := Aside0.mk hl483_5
         clear hi483_5 hl483_5
         have HR483_6 := Aside0.mk hi483_6
         have HC483_6 := Aside0.mk hl483_6
         clear hi483_6 hl483_6
         replace p483 := eq_true p483
         replace q483 := eq_true q483
         go_wp2_with (first | ((with_reducible refine gate_callee (f := 38) rfl ?_); refine goesL_ (some 66) rfl rfl Try.func38 (by kernel_rfl) rfl #[.slice A483_5 ((rd_T34 l0 x5_1).f5).length c483_5, .int .i64 t482] rfl mA ?_; (with_reducible refine (laws_heldAttrS.calls k1 _ _ ((rd_T34 l0 x5_1).f5) t482 t484 _ ?side1 ?side2 A21.out).mono ?_); (case side1 => repeat (first | exact (Kd.C_below HR483_5.out HB.out) | (with_reducible refine Kd.C_alloc ?_ _) | (with_reducible refine Kd.C_drewN ?_ _) | (with_reducible refine Kd.C_drew ?_))); (case side2 => exact HC483_5.out); rintro e w22 ⟨rfl, hb⟩; refine ⟨_, rfl, ?_⟩; replace HB := Aside0.mk (below_step hB hb); (try clear hb); (try clear hb2); (try clear hk); (try clear hi); refine halt_ ?_; intro q_ hq_))
         obtain ⟨rfl⟩ := hq_
         by_cases c23 : t484 < 0
         ·rw [if_pos c23] at H
          have c23b0 : decide (t484 < 0) = true := decide_eq_true c23
          clear c23
          obtain rfl := Option.some.inj H
          go_wp2
          go_ret
          exact ⟨rE, hB⟩
         ·rw [if_neg c23] at H
          have c23b0 : decide (t484 < 0) = false := decide_eq_false c23
          clear c23
          replace H := Option.bind_eq_some_iff.mp H
          obtain ⟨t486, A240, H⟩ := H
          try dsimp only at H
          have A24 := Aside0.mk A240
          clear A240
          have p485 : 0 ≤ (x5_1 : Int) := odt
          have q485 : x5_1 < (l0.length : Int) := odt
          obtain ⟨ad485, A485_4, c485_4, A485_5, c485_5, A485_6, c485_6, e485, hx485_0, hx485_1, hx485_2, hx485_3, hx485_4, hx485_5, hx485_6, hx485_7, hl485_4, hi485_4, hl485_5, hi485_5, hl485_6, hi485_6⟩ := at_T34 HR0.out x5_1 p485 q485
          obtain rfl : ad474 = ad485 := (by injection e485)
          replace hx485_0 := pw_cell_below HB.out hx485_0
          replace hx485_1 := pw_cell_below HB.out hx485_1
          replace hx485_2 := pw_cell_below HB.out hx485_2
          replace hx485_3 := pw_cell_below HB.out hx485_3
          replace hx485_4 := pw_cell_below HB.out hx485_4
          replace hx485_5 := pw_cell_below HB.out hx485_5
          replace hx485_6 := pw_cell_below HB.out hx485_6
          replace hx485_7 := pw_cell_below HB.out hx485_7
          have HR485_4 := Aside0.mk hi485_4
          have HC485_4 := Aside0.mk hl485_4
          clear hi485_4 hl485_4
          have HR485_5 := Aside0.mk hi485_5
          have HC485_5 := Aside0.mk hl485_5
          clear hi485_5 hl485_5
          have HR485_6 := Aside0.mk hi485_6
          have HC485_6 := Aside0.mk hl485_6
          clear hi485_6 hl485_6
          replace p485 := eq_true p485
          replace q485 := eq_true q485
          go_wp2_with (first | ((with_reducible refine gate_callee (f := 39) rfl ?_); refine goesL_ (some 75) rfl rfl Try.func39 (by kernel_rfl) rfl #[.slice A485_6 ((rd_T34 l0 x5_1).f6).length c485_6, .int .i64 t484] rfl mA ?_; (with_reducible refine (ih k1 (by have := HK1.out; omega) _ _ ((rd_T34 l0 x5_1).f6) t484 t486 _ ?side1 ?side2 A24.out).mono ?_); (case side1 => repeat (first | exact (Kd.C_below HR485_6.out HB.out) | (with_reducible refine Kd.C_alloc ?_ _) | (with_reducible refine Kd.C_drewN ?_ _) | (with_reducible refine Kd.C_drew ?_))); (case side2 => exact HC485_6.out); rintro e w25 ⟨rfl, hb⟩; refine ⟨_, rfl, ?_⟩; replace HB := Aside0.mk (below_step hB hb); (try clear hb); (try clear hb2); (try clear hk); (try clear hi); refine halt_ ?_; intro q_ hq_))
          obtain ⟨rfl⟩ := hq_
          by_cases c26 : t486 < 0
          ·rw [if_pos c26] at H
           have c26b0 : decide (t486 < 0) = true := decide_eq_true c26
           clear c26
           obtain rfl := Option.some.inj H
           go_wp2
           go_ret
           exact ⟨rE, hB⟩
          ·rw [if_neg c26] at H
           have c26b0 : decide (t486 < 0) = false := decide_eq_false c26
           clear c26
           replace H := Option.bind_eq_some_iff.mp H
           obtain ⟨t488, A270, H⟩ := H
           try dsimp only at H
           have A27 := Aside0.mk A270
           clear A270
           try go_wp2
           replace HB := Aside0.mk (below_drew1 HB.out)
           have p487 : 0 ≤ (x5_1 : Int) := odt
           have q487 : x5_1 < (l0.length : Int) := odt
           obtain ⟨ad487, A487_4, c487_4, A487_5, c487_5, A487_6, c487_6, e487, hx487_0, hx487_1, hx487_2, hx487_3, hx487_4, hx487_5, hx487_6, hx487_7, hl487_4, hi487_4, hl487_5, hi487_5, hl487_6, hi487_6⟩ := at_T34 HR0.out x5_1 p487 q487
           have hw487_7 := hx487_7
           have hw487_6 := hx487_6
           have hw487_5 := hx487_5
           have hw487_4 := hx487_4
           have hw487_3 := hx487_3
           have hw487_2 := hx487_2
           have hw487_1 := hx487_1
           have hw487_0 := hx487_0
           obtain rfl : ad474 = ad487 := (by injection e487)
           replace hx487_0 := pw_cell_below HB.out hx487_0
           replace hx487_1 := pw_cell_below HB.out hx487_1
           replace hx487_2 := pw_cell_below HB.out hx487_2
           replace hx487_3 := pw_cell_below HB.out hx487_3
           replace hx487_4 := pw_cell_below HB.out hx487_4
           replace hx487_5 := pw_cell_below HB.out hx487_5
           replace hx487_6 := pw_cell_below HB.out hx487_6
           replace hx487_7 := pw_cell_below HB.out hx487_7
           have HR487_4 := Aside0.mk hi487_4
           have HC487_4 := Aside0.mk hl487_4
           clear hi487_4 hl487_4
           have HR487_5 := Aside0.mk hi487_5
           have HC487_5 := Aside0.mk hl487_5
           clear hi487_5 hl487_5
           have HR487_6 := Aside0.mk hi487_6
           have HC487_6 := Aside0.mk hl487_6
           clear hi487_6 hl487_6
           replace p487 := eq_true p487
           replace q487 := eq_true q487
           refine start_ (n := 8) (S := fun w' => w'.cell? (ad474.add ((x5_1).toNat * 8)) = some (.int .i64 ((rd_T34 l0 x5_1).f0)) ∧ w'.cell? ⟨(ad474.add ((x5_1).toNat * 8)).block, (ad474.add ((x5_1).toNat * 8)).off + 1, none⟩ = some (.string ((rd_T34 l0 x5_1).f1)) ∧ w'.cell? ⟨(ad474.add ((x5_1).toNat * 8)).block, (ad474.add ((x5_1).toNat * 8)).off + 2, none⟩ = some (.string ((rd_T34 l0 x5_1).f2)) ∧ w'.cell? ⟨(ad474.add ((x5_1).toNat * 8)).block, (ad474.add ((x5_1).toNat * 8)).off + 3, none⟩ = some (.string ((rd_T34 l0 x5_1).f3)) ∧ w'.cell? ⟨(ad474.add ((x5_1).toNat * 8)).block, (ad474.add ((x5_1).toNat * 8)).off + 4, none⟩ = some (.slice A487_4 ((rd_T34 l0 x5_1).f4).length c487_4) ∧ w'.cell? ⟨(ad474.add ((x5_1).toNat * 8)).block, (ad474.add ((x5_1).toNat * 8)).off + 5, none⟩ = some (.slice A487_5 ((rd_T34 l0 x5_1).f5).length c487_5) ∧ w'.cell? ⟨(ad474.add ((x5_1).toNat * 8)).block, (ad474.add ((x5_1).toNat * 8)).off + 6, none⟩ = some (.slice A487_6 ((rd_T34 l0 x5_1).f6).length c487_6) ∧ w'.cell? ⟨(ad474.add ((x5_1).toNat * 8)).block, (ad474.add ((x5_1).toNat * 8)).off + 7, none⟩ = some (.string ((rd_T34 l0 x5_1).f7))) (ds := []) #[false, false, false, false, false, false, false, false] (by kernel_rfl) rfl rfl ⟨(pw_cell_below HB.out hw487_0), (pw_cell_below HB.out hw487_1), (pw_cell_below HB.out hw487_2), (pw_cell_below HB.out hw487_3), (pw_cell_below HB.out hw487_4), (pw_cell_below HB.out hw487_5), (pw_cell_below HB.out hw487_6), (pw_cell_below HB.out hw487_7)⟩ (fun hHeld => ?_); refine with_tabW laws_heldNodeS.tab25 laws_heldNodeS.bits25 (fun HT_ HW_ => ?_)
           generalize w25.drew = w28 at HB HR487_4 HR487_5 HR487_6 hx487_0 hx487_1 hx487_2 hx487_3 hx487_4 hx487_5 hx487_6 hx487_7 hHeld ⊢
           refine pU 0 78 (tf 1 7) ?_
           refine pU 1 79 (tf 2 6) ?_
           refine pU 2 80 (tf 3 5) ?_
           refine pU 3 81 (tf 4 4) ?_
           refine pU 5 83 #[true, true, true, true, false, true, false, false] ?_
           refine take_ (i := 4) (N := some 82) (v := ?_) (a' := ?_) (tf 6 2) rfl rfl (take_ofW HT_.out HW_.out (by kernel_rfl)) (fun _ _ _ h => h) (Or.inl ⟨by rfl, ?_⟩) hHeld ?_ ?_
           rotate_left
           ·rintro w' ⟨s0, s1, s2, s3, s4, s5, s6, s7⟩
            go_simp
            with_reducible rfl
           rotate_left
           ·simp only [Act.put, sT, sZ, sS, i64_w, i32_w]
            rfl
           refine one_ (i := 6) (N := some 84) (tf 7 1) rfl rfl (one_of HT_.out (by kernel_rfl)) (by decide) (fun K hK => ?_)
           refine goes_ Try.func36 (by kernel_rfl) rfl #[.int .i64 t486] (by rfl) rfl rfl mA ?_
           with_reducible refine (laws_markText.calls k1 t486 t488 _ A27.out).mono ?_
           rintro e w29 ⟨rfl, hb⟩
           refine ⟨_, rfl, ?_⟩
           replace HB := Aside0.mk (below_step hB hb)
           (try clear hb)
           (try clear hb2)
           (try clear hk)
           (try clear hi)
           refine hK.out _ _ ⟨(pw_cell_below HB.out hw487_0), (pw_cell_below HB.out hw487_1), (pw_cell_below HB.out hw487_2), (pw_cell_below HB.out hw487_3), (pw_cell_below HB.out hw487_4), (pw_cell_below HB.out hw487_5), (pw_cell_below HB.out hw487_6), (pw_cell_below HB.out hw487_7)⟩ (fun hHeld => ?_)
           clear hK K
           refine norm_ (a' := ?_) ?_ ?_
           rotate_left
           ·show Act.put _ (some 84) _ = _
            simp only [Act.put, sT, sZ, sS, i64_w, i32_w]
            rfl
           refine pU 7 85 (tf 8 0) ?_
           refine done_ (done_of HT_.out (by kernel_rfl)) ?_
           by_cases c30 : ((rd_T34 l0 x5_1).f7).toList = t488.toList
           ·rw [if_pos c30] at H
            obtain ⟨c30b0, c30b1⟩ := eqT c30
            clear c30
            (first | rw [c30b0] | (simp only [i64_w, i32_w]; rw [c30b0]) | skip)
            have H' := Aside0.mk H
            clear H
            go_wp2
            go_roundg k1
            case measure => have := HK1.out; omega
            case rel => exact ⟨(wrap64 (t486 + 1)), (wrap64 (x5_1 + 1)), rG, rG, H', ⟨by have := HK1.out; omega⟩, ⟨hB⟩⟩
           ·rw [if_neg c30] at H
            obtain ⟨c30b0, c30b1⟩ := eqF c30
            (first | rw [c30b0] | (simp only [i64_w, i32_w]; rw [c30b0]) | skip)
            obtain rfl := Option.some.inj H
            go_wp2
            go_ret
            exact ⟨rE, hB⟩
       ·rw [if_neg c17] at H
        obtain ⟨c17b0, c17b1⟩ := eqF c17
        (first | rw [c17b0] | (simp only [i64_w, i32_w]; rw [c17b0]) | skip)
        obtain rfl := Option.some.inj H
        go_wp2
        go_ret
        exact ⟨rE, hB⟩
      ·rw [if_neg c13] at H
       obtain ⟨c13b0, c13b1⟩ := eqF c13
       (first | rw [c13b0] | (simp only [i64_w, i32_w]; rw [c13b0]) | skip)
       obtain rfl := Option.some.inj H
       go_wp2
       go_ret
       exact ⟨rE, hB⟩
     ·rw [if_neg c9] at H
      obtain ⟨c9b0, c9b1⟩ := eqF c9
      (first | rw [c9b0] | (simp only [i64_w, i32_w]; rw [c9b0]) | skip)
      obtain rfl := Option.some.inj H
      go_wp2
      go_ret
      exact ⟨rE, hB⟩
    ·rw [if_neg c5] at H
     obtain ⟨c5b0, c5b1⟩ := eqF c5
     obtain rfl := Option.some.inj H
     have p474 : 0 ≤ (x5_1 : Int) := odt
     have q474 : x5_1 < (l0.length : Int) := odt
     obtain ⟨ad474, A474_4, c474_4, A474_5, c474_5, A474_6, c474_6, e474, hx474_0, hx474_1, hx474_2, hx474_3, hx474_4, hx474_5, hx474_6, hx474_7, hl474_4, hi474_4, hl474_5, hi474_5, hl474_6, hi474_6⟩ := at_T34 HR0.out x5_1 p474 q474
     cases e474
     replace hx474_0 := pw_cell_below HB.out hx474_0
     replace hx474_1 := pw_cell_below HB.out hx474_1
     replace hx474_2 := pw_cell_below HB.out hx474_2
     replace hx474_3 := pw_cell_below HB.out hx474_3
     replace hx474_4 := pw_cell_below HB.out hx474_4
     replace hx474_5 := pw_cell_below HB.out hx474_5
     replace hx474_6 := pw_cell_below HB.out hx474_6
     replace hx474_7 := pw_cell_below HB.out hx474_7
     have HR474_4 := Aside0.mk hi474_4
     have HC474_4 := Aside0.mk hl474_4
     clear hi474_4 hl474_4
     have HR474_5 := Aside0.mk hi474_5
     have HC474_5 := Aside0.mk hl474_5
     clear hi474_5 hl474_5
     have HR474_6 := Aside0.mk hi474_6
     have HC474_6 := Aside0.mk hl474_6
     clear hi474_6 hl474_6
     replace p474 := eq_true p474
     replace q474 := eq_true q474
     go_wp2
     go_ret
     exact ⟨rE, hB⟩
   ·rw [if_neg c3] at H
    have c3b0 : decide (x5_1 < (l0.length : Int)) = false := decide_eq_false c3
    clear c3
    obtain rfl := Option.some.inj H
    go_wp2
    go_ret
    exact ⟨rE, hB⟩

/-! ### laws_heldNode: function 17 -/
def laws_heldNode.f (k : Nat) (a0_0 : Int) (a0_1 : ByteArray) (a0_2 : ByteArray) (a0_3 : ByteArray) (l0_4 : List (S69)) (l0_5 : List (S71)) (l0_6 : List (S34)) (a0_7 : ByteArray) (a1 : Int) : Option (Int) := (laws_heldDeclS.f k l0_4 a1).bind fun t490 => (if t490 < 0 then (some (-1)) else ((laws_heldAttrS.f k l0_5 t490).bind fun t491 => (if t491 < 0 then (some (-1)) else ((laws_heldNodeS.f k l0_6 t491).bind fun t492 => (if t492 < 0 then (some (-1)) else (some t492))))))
theorem laws_heldNode.calls (k : Nat) (a0_0 : Int) (a0_1 : ByteArray) (a0_2 : ByteArray) (a0_3 : ByteArray) (A0_4 : Option Addr) (c0_4 : Nat) (l0_4 : List (S69)) (A0_5 : Option Addr) (c0_5 : Nat) (l0_5 : List (S71)) (A0_6 : Option Addr) (c0_6 : Nat) (l0_6 : List (S34)) (a0_7 : ByteArray) (a1 : Int) (r : Int) (w : World) (hr0_4 : Kd.C k69 w A0_4 l0_4.length l0_4) (hc0_4 : l0_4.length ≤ c0_4) (hr0_5 : Kd.C k71 w A0_5 l0_5.length l0_5) (hc0_5 : l0_5.length ≤ c0_5) (hr0_6 : Kd.C k34 w A0_6 l0_6.length l0_6) (hc0_6 : l0_6.length ≤ c0_6) (h : laws_heldNode.f k a0_0 a0_1 a0_2 a0_3 l0_4 l0_5 l0_6 a0_7 a1 = some r) :
  Calls Try.prog 17 #[.agg #[.int .i64 a0_0, .string a0_1, .string a0_2, .string a0_3, .slice A0_4 l0_4.length c0_4, .slice A0_5 l0_5.length c0_5, .slice A0_6 l0_6.length c0_6, .string a0_7], .int .i64 a1] w fun e w' => e = .returned (.int .i64 r) ∧ Below w.heap.size w w' := by
 have hu34 := Try.underlying34
 have HR0_4 := Aside0.mk hr0_4
 have HC0_4 := Aside0.mk hc0_4
 clear hr0_4 hc0_4
 have HR0_5 := Aside0.mk hr0_5
 have HC0_5 := Aside0.mk hc0_5
 clear hr0_5 hc0_5
 have HR0_6 := Aside0.mk hr0_6
 have HC0_6 := Aside0.mk hc0_6
 clear hr0_6 hc0_6
 have HB := Aside0.mk (Below.refl w.heap.size w)
 have H : ((laws_heldDeclS.f k l0_4 a1).bind fun t490 => (if t490 < 0 then (some (-1)) else ((laws_heldAttrS.f k l0_5 t490).bind fun t491 => (if t491 < 0 then (some (-1)) else ((laws_heldNodeS.f k l0_6 t491).bind fun t492 => (if t492 < 0 then (some (-1)) else (some t492))))))) = some r := h
 clear h
 replace H := Option.bind_eq_some_iff.mp H
 obtain ⟨t490, A30, H⟩ := H
 try dsimp only at H
 have A3 := Aside0.mk A30
 clear A30
 go_enter Try.func17, Try.ntmps17
 go_wp2_with (first | ((with_reducible refine gate_dst (N := 2) rfl ?_); refine box_event ?hg (N := 2) ?hd (cs := #[.int .i64 a0_0, .string a0_1, .string a0_2, .string a0_3, .slice A0_4 l0_4.length c0_4, .slice A0_5 l0_5.length c0_5, .slice A0_6 l0_6.length c0_6, .string a0_7]) (t := 34) ?hr ?_; (case hd => rfl); (case hg => rfl); (case hr => first | (go_simp; done) | (go_simp; rfl)); intro gb489 hg w4 hbox hb; have BK489 := Aside0.mk (hbox); have GW489 := Aside0.mk ((by rw [hg]; exact (below_size hB) : w.heap.size ≤ gb489)); have GE489 := Aside0.mk ((by rw [hg]; exact (below_size hB) : w.heap.size ≤ gb489)); replace HB := Aside0.mk (below_step hB hb); clear hb hbox hg; obtain ⟨hcz5_0, hcz5_1, hcz5_2, hcz5_3, hcz5_4, hcz5_5, hcz5_6, hcz5_7⟩ := bc8 BK489.out) | ((with_reducible refine gate_callee (f := 37) rfl ?_); refine goesL_ (some 8) rfl rfl Try.func37 (by kernel_rfl) rfl #[.slice A0_4 l0_4.length c0_4, .int .i64 a1] rfl mA ?_; (with_reducible refine (laws_heldDeclS.calls k _ _ l0_4 a1 t490 _ ?side1 ?side2 A3.out).mono ?_); (case side1 => repeat (first | exact (Kd.C_below HR0_4.out HB.out) | (with_reducible refine Kd.C_alloc ?_ _) | (with_reducible refine Kd.C_drewN ?_ _) | (with_reducible refine Kd.C_drew ?_))); (case side2 => exact HC0_4.out); rintro e w6 ⟨rfl, hb⟩; refine ⟨_, rfl, ?_⟩; replace BK489 := Aside0.mk (blk_below (g := gb489) (by (with_reducible repeat (first | refine bN ?_ _|refine bD ?_|refine bA ?_ _)); exact BK489.out) hb); replace HB := Aside0.mk (below_step hB hb); (try clear hb); (try clear hb2); (try clear hk); (try clear hi); refine halt_ ?_; intro q_ hq_))
 obtain ⟨rfl⟩ := hq_
 by_cases c7 : t490 < 0
 ·rw [if_pos c7] at H
  have c7b0 : decide (t490 < 0) = true := decide_eq_true c7
  clear c7
  obtain rfl := Option.some.inj H
  go_wp2
  go_ret
  exact ⟨rE, hB⟩
 ·rw [if_neg c7] at H
  have c7b0 : decide (t490 < 0) = false := decide_eq_false c7
  clear c7
  replace H := Option.bind_eq_some_iff.mp H
  obtain ⟨t491, A80, H⟩ := H
  try dsimp only at H
  have A8 := Aside0.mk A80
  clear A80
  obtain ⟨hcz9_0, hcz9_1, hcz9_2, hcz9_3, hcz9_4, hcz9_5, hcz9_6, hcz9_7⟩ := bc8 BK489.out
  go_wp2_with (first | ((with_reducible refine gate_callee (f := 38) rfl ?_); refine goesL_ (some 14) rfl rfl Try.func38 (by kernel_rfl) rfl #[.slice A0_5 l0_5.length c0_5, .int .i64 t490] rfl mA ?_; (with_reducible refine (laws_heldAttrS.calls k _ _ l0_5 t490 t491 _ ?side1 ?side2 A8.out).mono ?_); (case side1 => repeat (first | exact (Kd.C_below HR0_5.out HB.out) | (with_reducible refine Kd.C_alloc ?_ _) | (with_reducible refine Kd.C_drewN ?_ _) | (with_reducible refine Kd.C_drew ?_))); (case side2 => exact HC0_5.out); rintro e w10 ⟨rfl, hb⟩; refine ⟨_, rfl, ?_⟩; replace BK489 := Aside0.mk (blk_below (g := gb489) (by (with_reducible repeat (first | refine bN ?_ _|refine bD ?_|refine bA ?_ _)); exact BK489.out) hb); replace HB := Aside0.mk (below_step hB hb); (try clear hb); (try clear hb2); (try clear hk); (try clear hi); refine halt_ ?_; intro q_ hq_))
  obtain ⟨rfl⟩ := hq_
  by_cases c11 : t491 < 0
  ·rw [if_pos c11] at H
   have c11b0 : decide (t491 < 0) = true := decide_eq_true c11
   clear c11
   obtain rfl := Option.some.inj H
   go_wp2
   go_ret
   exact ⟨rE, hB⟩
  ·rw [if_neg c11] at H
   have c11b0 : decide (t491 < 0) = false := decide_eq_false c11
   clear c11
   replace H := Option.bind_eq_some_iff.mp H
   obtain ⟨t492, A120, H⟩ := H
   try dsimp only at H
   have A12 := Aside0.mk A120
   clear A120
   obtain ⟨hcz13_0, hcz13_1, hcz13_2, hcz13_3, hcz13_4, hcz13_5, hcz13_6, hcz13_7⟩ := bc8 BK489.out
   go_wp2_with (first | ((with_reducible refine gate_callee (f := 39) rfl ?_); refine goesL_ (some 20) rfl rfl Try.func39 (by kernel_rfl) rfl #[.slice A0_6 l0_6.length c0_6, .int .i64 t491] rfl mA ?_; (with_reducible refine (laws_heldNodeS.calls k _ _ l0_6 t491 t492 _ ?side1 ?side2 A12.out).mono ?_); (case side1 => repeat (first | exact (Kd.C_below HR0_6.out HB.out) | (with_reducible refine Kd.C_alloc ?_ _) | (with_reducible refine Kd.C_drewN ?_ _) | (with_reducible refine Kd.C_drew ?_))); (case side2 => exact HC0_6.out); rintro e w14 ⟨rfl, hb⟩; refine ⟨_, rfl, ?_⟩; replace BK489 := Aside0.mk (blk_below (g := gb489) (by (with_reducible repeat (first | refine bN ?_ _|refine bD ?_|refine bA ?_ _)); exact BK489.out) hb); replace HB := Aside0.mk (below_step hB hb); (try clear hb); (try clear hb2); (try clear hk); (try clear hi); refine halt_ ?_; intro q_ hq_))
   obtain ⟨rfl⟩ := hq_
   by_cases c15 : t492 < 0
   ·rw [if_pos c15] at H
    have c15b0 : decide (t492 < 0) = true := decide_eq_true c15
    clear c15
    obtain rfl := Option.some.inj H
    go_wp2
    go_ret
    exact ⟨rE, hB⟩
   ·rw [if_neg c15] at H
    have c15b0 : decide (t492 < 0) = false := decide_eq_false c15
    clear c15
    obtain rfl := Option.some.inj H
    go_wp2
    go_ret
    exact ⟨rE, hB⟩

end Go.Proofs.Ytglmahgliihkaaa.PY
