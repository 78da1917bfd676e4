-- Written by the session's program hprint.py, over the kit's print program. Lean checks it.
import Derived.Test.YtdbinpeglamnnaaPAx0
import Derived.Test.YtdbinpeglamnnaaPAx3
import Derived.Test.YtdbinpeglamnnaaPAx7
namespace Go.Proofs.Ytdbinpeglamnnaa.PA
open Go.RowKit Go.Proofs.YtdbinpeglamnnaaW.PrintWords Go.Proofs.YtdbinpeglamnnaaW.PrintLast Go.Proofs.YtdbinpeglamnnaaW.PrintMore
attribute [local go_sem] max2_int min2_int max_two min_two max_three min_three max_four min_four   -- for this text's walks alone
set_option linter.unusedVariables false
set_option linter.unusedSimpArgs false
set_option maxHeartbeats 8000000
set_option maxRecDepth 100000

/-! ### laws_heldNodeS: function 23 -/
mutual
def laws_heldNodeS.l0 : Nat → List (S34) → Int → Int → Option (Int)
 | 0, _, _, _ => none
 | k + 1, x0, x1, x5 => if x5 < (x0.length : Int) then (if 0 ≤ x5 then (if ((rd_T34 x0 x5).f0) = x1 then ((laws_markText.f k (wrap64 (x1 + 1))).bind fun t331 => (if ((rd_T34 x0 x5).f1).toList = t331.toList then ((laws_markText.f k (wrap64 ((wrap64 (x1 + 1)) + 1))).bind fun t333 => (if ((rd_T34 x0 x5).f2).toList = t333.toList then ((laws_markText.f k (wrap64 ((wrap64 ((wrap64 (x1 + 1)) + 1)) + 1))).bind fun t335 => (if ((rd_T34 x0 x5).f3).toList = t335.toList then ((laws_heldDeclS.f k ((rd_T34 x0 x5).f4) (wrap64 ((wrap64 ((wrap64 ((wrap64 (x1 + 1)) + 1)) + 1)) + 1))).bind fun t337 => (if t337 < 0 then (some (-1)) else ((laws_heldAttrS.f k ((rd_T34 x0 x5).f5) t337).bind fun t339 => (if t339 < 0 then (some (-1)) else ((laws_heldNodeS.f k ((rd_T34 x0 x5).f6) t339).bind fun t341 => (if t341 < 0 then (some (-1)) else ((laws_markText.f k t341).bind fun t343 => (if ((rd_T34 x0 x5).f7).toList = t343.toList then (laws_heldNodeS.l0 k x0 (wrap64 (t341 + 1)) (wrap64 (x5 + 1))) else (some (-1)))))))))) else (some (-1)))) else (some (-1)))) else (some (-1)))) else (some (-1))) else (none)) else (some x1)
def laws_heldNodeS.f : Nat → List (S34) → Int → Option (Int)
 | 0, _, _ => none
 | k + 1, l0, a1 => laws_heldNodeS.l0 k l0 a1 0
end
def laws_heldNodeS.T7 : Bool × List (List Nat × List Nat) := (true, [([], []), ([], []), ([0, 1], [0, 1]), ([2], [2]), ([3], [3]), ([], []), ([5], [5]), ([4, 6], [4, 6])])
def laws_heldNodeS.B7 : List Nat := [0, 0, 3, 7, 15, 0, 32, 127]
theorem laws_heldNodeS.tab7 : rtab .any (opsOf Try.f23 7) = laws_heldNodeS.T7 := by kernel_rfl
theorem laws_heldNodeS.bits7 : waitsOk laws_heldNodeS.T7.2 laws_heldNodeS.B7 = true := by kernel_rfl
def laws_heldNodeS.T10 : Bool × List (List Nat × List Nat) := (true, [([], []), ([], []), ([0, 1], [0, 1]), ([2], [2]), ([3], [3]), ([], []), ([5], [5]), ([4, 6], [4, 6])])
def laws_heldNodeS.B10 : List Nat := [0, 0, 3, 7, 15, 0, 32, 127]
theorem laws_heldNodeS.tab10 : rtab .any (opsOf Try.f23 10) = laws_heldNodeS.T10 := by kernel_rfl
theorem laws_heldNodeS.bits10 : waitsOk laws_heldNodeS.T10.2 laws_heldNodeS.B10 = true := by kernel_rfl
def laws_heldNodeS.T13 : Bool × List (List Nat × List Nat) := (true, [([], []), ([], []), ([0, 1], [0, 1]), ([2], [2]), ([3], [3]), ([], []), ([5], [5]), ([4, 6], [4, 6])])
def laws_heldNodeS.B13 : List Nat := [0, 0, 3, 7, 15, 0, 32, 127]
theorem laws_heldNodeS.tab13 : rtab .any (opsOf Try.f23 13) = laws_heldNodeS.T13 := by kernel_rfl
theorem laws_heldNodeS.bits13 : waitsOk laws_heldNodeS.T13.2 laws_heldNodeS.B13 = true := by kernel_rfl
def laws_heldNodeS.T25 : Bool × List (List Nat × List Nat) := (true, [([], []), ([], []), ([0, 1], [0, 1]), ([2], [2]), ([3], [3]), ([], []), ([5], [5]), ([4, 6], [4, 6])])
def laws_heldNodeS.B25 : List Nat := [0, 0, 3, 7, 15, 0, 32, 127]
theorem laws_heldNodeS.tab25 : rtab .any (opsOf Try.f23 25) = laws_heldNodeS.T25 := by kernel_rfl
theorem laws_heldNodeS.bits25 : waitsOk laws_heldNodeS.T25.2 laws_heldNodeS.B25 = true := by kernel_rfl
theorem laws_heldNodeS.calls (k : Nat) : ∀ (A0 : Option Addr) (c0 : Nat) (l0 : List (S34)) (a1 : Int) (r : Int) (w : World) (hr0 : Kd.C k34 w A0 l0.length l0) (hc0 : l0.length ≤ c0) (h : laws_heldNodeS.f k l0 a1 = some r),
  Calls Try.prog 23 #[.slice A0 l0.length c0, .int .i64 a1] w fun e w' => e = .returned (.int .i64 r) ∧ Below w.heap.size w w' := by
 induction k using Nat.strongRecOn with
 | _ k ih =>
 intro A0 c0 l0 a1 r w hr0 hc0 h
 cases k with
 | zero => exact absurd h (by simp [laws_heldNodeS.f])
 | succ k =>
 simp only [laws_heldNodeS.f] at h
 have HR0 := Aside0.mk hr0
 have HC0 := Aside0.mk hc0
 clear hr0 hc0
 have HB := Aside0.mk (Below.refl w.heap.size w)
 have H : (laws_heldNodeS.l0 k l0 a1 0) = some r := h
 clear h
 have H' := Aside0.mk H
 clear H
 go_enter Try.func23, Try.ntmps23
 go_wp2
 go_loopg [1, 5] k (fun kq v1 v5 w' => ∃ (x1_1 : Int) (x5_1 : Int), v1 = .int .i64 x1_1 ∧ v5 = .int .i64 x5_1 ∧ Aside0 (laws_heldNodeS.l0 kq l0 x1_1 x5_1 = some r) ∧ Aside0 (kq ≤ k) ∧ Aside0 (Below w.heap.size w w'))
 case atStart => exact ⟨(a1), (0), rG, rG, H', ⟨Nat.le_refl _⟩, ⟨hB⟩⟩
 case round =>
  clear H'
  obtain ⟨x1_1, x5_1, rfl, rfl, HA, HK1, HB⟩ := hrel
  cases gk with
  | zero => exact absurd HA.out (by simp [laws_heldNodeS.l0])
  | succ k1 =>
   have H := HA.out
   clear HA
   simp only [laws_heldNodeS.l0] at H
   by_cases c3 : x5_1 < (l0.length : Int)
   ·rw [if_pos c3] at H
    have c3b0 : decide (x5_1 < (l0.length : Int)) = true := decide_eq_true c3
    clear c3
    obtain ⟨c4, H⟩ := if_som H
    have c4b0 : decide (0 ≤ x5_1) = true := decide_eq_true c4
    clear c4
    by_cases c5 : ((rd_T34 l0 x5_1).f0) = x1_1
    ·rw [if_pos c5] at H
     obtain ⟨c5b0, c5b1⟩ := eqT c5
     clear c5
     replace H := Option.bind_eq_some_iff.mp H
     obtain ⟨t331, A60, H⟩ := H
     try dsimp only at H
     have A6 := Aside0.mk A60
     clear A60
     have p329 : 0 ≤ (x5_1 : Int) := odt
     have q329 : x5_1 < (l0.length : Int) := odt
     obtain ⟨ad329, A329_4, c329_4, A329_5, c329_5, A329_6, c329_6, e329, hx329_0, hx329_1, hx329_2, hx329_3, hx329_4, hx329_5, hx329_6, hx329_7, hl329_4, hi329_4, hl329_5, hi329_5, hl329_6, hi329_6⟩ := at_T34 HR0.out x5_1 p329 q329
     cases e329
     replace hx329_0 := pw_cell_below HB.out hx329_0
     replace hx329_1 := pw_cell_below HB.out hx329_1
     replace hx329_2 := pw_cell_below HB.out hx329_2
     replace hx329_3 := pw_cell_below HB.out hx329_3
     replace hx329_4 := pw_cell_below HB.out hx329_4
     replace hx329_5 := pw_cell_below HB.out hx329_5
     replace hx329_6 := pw_cell_below HB.out hx329_6
     replace hx329_7 := pw_cell_below HB.out hx329_7
     have HR329_4 := Aside0.mk hi329_4
     have HC329_4 := Aside0.mk hl329_4
     clear hi329_4 hl329_4
     have HR329_5 := Aside0.mk hi329_5
     have HC329_5 := Aside0.mk hl329_5
     clear hi329_5 hl329_5
     have HR329_6 := Aside0.mk hi329_6
     have HC329_6 := Aside0.mk hl329_6
     clear hi329_6 hl329_6
     replace p329 := eq_true p329
     replace q329 := eq_true q329
     try go_wp2
     replace HB := Aside0.mk (below_drew1 HB.out)
     have p330 : 0 ≤ (x5_1 : Int) := odt
     have q330 : x5_1 < (l0.length : Int) := odt
     obtain ⟨ad330, A330_4, c330_4, A330_5, c330_5, A330_6, c330_6, e330, hx330_0, hx330_1, hx330_2, hx330_3, hx330_4, hx330_5, hx330_6, hx330_7, hl330_4, hi330_4, hl330_5, hi330_5, hl330_6, hi330_6⟩ := at_T34 HR0.out x5_1 p330 q330
     have hw330_7 := hx330_7
     have hw330_6 := hx330_6
     have hw330_5 := hx330_5
     have hw330_4 := hx330_4
     have hw330_3 := hx330_3
     have hw330_2 := hx330_2
     have hw330_1 := hx330_1
     have hw330_0 := hx330_0
     obtain rfl : ad329 = ad330 := (by injection e330)
     replace hx330_0 := pw_cell_below HB.out hx330_0
     replace hx330_1 := pw_cell_below HB.out hx330_1
     replace hx330_2 := pw_cell_below HB.out hx330_2
     replace hx330_3 := pw_cell_below HB.out hx330_3
     replace hx330_4 := pw_cell_below HB.out hx330_4
     replace hx330_5 := pw_cell_below HB.out hx330_5
     replace hx330_6 := pw_cell_below HB.out hx330_6
     replace hx330_7 := pw_cell_below HB.out hx330_7
     have HR330_4 := Aside0.mk hi330_4
     have HC330_4 := Aside0.mk hl330_4
     clear hi330_4 hl330_4
     have HR330_5 := Aside0.mk hi330_5
     have HC330_5 := Aside0.mk hl330_5
     clear hi330_5 hl330_5
     have HR330_6 := Aside0.mk hi330_6
     have HC330_6 := Aside0.mk hl330_6
     clear hi330_6 hl330_6
     replace p330 := eq_true p330
     replace q330 := eq_true q330
     refine start_ (n := 8) (S := fun w' => w'.cell? (ad329.add ((x5_1).toNat * 8)) = some (.int .i64 ((rd_T34 l0 x5_1).f0)) ∧ w'.cell? ⟨(ad329.add ((x5_1).toNat * 8)).block, (ad329.add ((x5_1).toNat * 8)).off + 1, none⟩ = some (.string ((rd_T34 l0 x5_1).f1)) ∧ w'.cell? ⟨(ad329.add ((x5_1).toNat * 8)).block, (ad329.add ((x5_1).toNat * 8)).off + 2, none⟩ = some (.string ((rd_T34 l0 x5_1).f2)) ∧ w'.cell? ⟨(ad329.add ((x5_1).toNat * 8)).block, (ad329.add ((x5_1).toNat * 8)).off + 3, none⟩ = some (.string ((rd_T34 l0 x5_1).f3)) ∧ w'.cell? ⟨(ad329.add ((x5_1).toNat * 8)).block, (ad329.add ((x5_1).toNat * 8)).off + 4, none⟩ = some (.slice A330_4 ((rd_T34 l0 x5_1).f4).length c330_4) ∧ w'.cell? ⟨(ad329.add ((x5_1).toNat * 8)).block, (ad329.add ((x5_1).toNat * 8)).off + 5, none⟩ = some (.slice A330_5 ((rd_T34 l0 x5_1).f5).length c330_5) ∧ w'.cell? ⟨(ad329.add ((x5_1).toNat * 8)).block, (ad329.add ((x5_1).toNat * 8)).off + 6, none⟩ = some (.slice A330_6 ((rd_T34 l0 x5_1).f6).length c330_6) ∧ w'.cell? ⟨(ad329.add ((x5_1).toNat * 8)).block, (ad329.add ((x5_1).toNat * 8)).off + 7, none⟩ = some (.string ((rd_T34 l0 x5_1).f7))) (ds := []) #[false, false, false, false, false, false, false, false] (by kernel_rfl) rfl rfl ⟨(pw_cell_below HB.out hw330_0), (pw_cell_below HB.out hw330_1), (pw_cell_below HB.out hw330_2), (pw_cell_below HB.out hw330_3), (pw_cell_below HB.out hw330_4), (pw_cell_below HB.out hw330_5), (pw_cell_below HB.out hw330_6), (pw_cell_below HB.out hw330_7)⟩ (fun hHeld => ?_); refine with_tabW laws_heldNodeS.tab7 laws_heldNodeS.bits7 (fun HT_ HW_ => ?_)
     generalize wr.drew = w7 at HB HR330_4 HR330_5 HR330_6 hx330_0 hx330_1 hx330_2 hx330_3 hx330_4 hx330_5 hx330_6 hx330_7 hHeld ⊢
     refine pU 0 21 (tf 1 7) ?_
     refine pU 1 22 (tf 2 6) ?_
     refine pU 2 23 (tf 3 5) ?_
     refine pU 3 24 (tf 4 4) ?_
     refine pU 5 26 #[true, true, true, true, false, true, false, false] ?_
     refine take_ (i := 4) (N := some 25) (v := ?_) (a' := ?_) (tf 6 2) rfl rfl (take_ofW HT_.out HW_.out (by kernel_rfl)) (fun _ _ _ h => h) (Or.inl ⟨by rfl, ?_⟩) hHeld ?_ ?_
     rotate_left
     ·rintro w' ⟨s0, s1, s2, s3, s4, s5, s6, s7⟩
      go_simp
      with_reducible rfl
     rotate_left
     ·simp only [Act.put, sT, sZ, sS, i64_w, i32_w]
      rfl
     refine one_ (i := 6) (N := some 27) (tf 7 1) rfl rfl (one_of HT_.out (by kernel_rfl)) (by decide) (fun K hK => ?_)
     refine goes_ Try.func48 (by kernel_rfl) rfl #[.int .i64 (wrap64 (x1_1 + 1))] (by rfl) rfl rfl mA ?_
     with_reducible refine (laws_markText.calls k1 (wrap64 (x1_1 + 1)) t331 _ A6.out).mono ?_
     rintro e w8 ⟨rfl, hb⟩
     refine ⟨_, rfl, ?_⟩
     replace HB := Aside0.mk (below_step hB hb)
     (try clear hb)
     (try clear hb2)
     (try clear hk)
     (try clear hi)
     refine hK.out _ _ ⟨(pw_cell_below HB.out hw330_0), (pw_cell_below HB.out hw330_1), (pw_cell_below HB.out hw330_2), (pw_cell_below HB.out hw330_3), (pw_cell_below HB.out hw330_4), (pw_cell_below HB.out hw330_5), (pw_cell_below HB.out hw330_6), (pw_cell_below HB.out hw330_7)⟩ (fun hHeld => ?_)
     clear hK K
     refine norm_ (a' := ?_) ?_ ?_
     rotate_left
     ·show Act.put _ (some 27) _ = _
      simp only [Act.put, sT, sZ, sS, i64_w, i32_w]
      rfl
     refine pU 7 28 (tf 8 0) ?_
     refine done_ (done_of HT_.out (by kernel_rfl)) ?_
     by_cases c9 : ((rd_T34 l0 x5_1).f1).toList = t331.toList
     ·rw [if_pos c9] at H
      obtain ⟨c9b0, c9b1⟩ := eqT c9
      clear c9
      (first | rw [c9b0] | (simp only [i64_w, i32_w]; rw [c9b0]) | skip)
      replace H := Option.bind_eq_some_iff.mp H
      obtain ⟨t333, A100, H⟩ := H
      try dsimp only at H
      have A10 := Aside0.mk A100
      clear A100
      try go_wp2
      replace HB := Aside0.mk (below_drew1 HB.out)
      have p332 : 0 ≤ (x5_1 : Int) := odt
      have q332 : x5_1 < (l0.length : Int) := odt
      obtain ⟨ad332, A332_4, c332_4, A332_5, c332_5, A332_6, c332_6, e332, hx332_0, hx332_1, hx332_2, hx332_3, hx332_4, hx332_5, hx332_6, hx332_7, hl332_4, hi332_4, hl332_5, hi332_5, hl332_6, hi332_6⟩ := at_T34 HR0.out x5_1 p332 q332
      have hw332_7 := hx332_7
      have hw332_6 := hx332_6
      have hw332_5 := hx332_5
      have hw332_4 := hx332_4
      have hw332_3 := hx332_3
      have hw332_2 := hx332_2
      have hw332_1 := hx332_1
      have hw332_0 := hx332_0
      obtain rfl : ad329 = ad332 := (by injection e332)
      replace hx332_0 := pw_cell_below HB.out hx332_0
      replace hx332_1 := pw_cell_below HB.out hx332_1
      replace hx332_2 := pw_cell_below HB.out hx332_2
      replace hx332_3 := pw_cell_below HB.out hx332_3
      replace hx332_4 := pw_cell_below HB.out hx332_4
      replace hx332_5 := pw_cell_below HB.out hx332_5
      replace hx332_6 := pw_cell_below HB.out hx332_6
      replace hx332_7 := pw_cell_below HB.out hx332_7
      have HR332_4 := Aside0.mk hi332_4
      have HC332_4 := Aside0.mk hl332_4
      clear hi332_4 hl332_4
      have HR332_5 := Aside0.mk hi332_5
      have HC332_5 := Aside0.mk hl332_5
      clear hi332_5 hl332_5
      have HR332_6 := Aside0.mk hi332_6
      have HC332_6 := Aside0.mk hl332_6
      clear hi332_6 hl332_6
      replace p332 := eq_true p332
      replace q332 := eq_true q332
      refine start_ (n := 8) (S := fun w' => w'.cell? (ad329.add ((x5_1).toNat * 8)) = some (.int .i64 ((rd_T34 l0 x5_1).f0)) ∧ w'.cell? ⟨(ad329.add ((x5_1).toNat * 8)).block, (ad329.add ((x5_1).toNat * 8)).off + 1, none⟩ = some (.string ((rd_T34 l0 x5_1).f1)) ∧ w'.cell? ⟨(ad329.add ((x5_1).toNat * 8)).block, (ad329.add ((x5_1).toNat * 8)).off + 2, none⟩ = some (.string ((rd_T34 l0 x5_1).f2)) ∧ w'.cell? ⟨(ad329.add ((x5_1).toNat * 8)).block, (ad329.add ((x5_1).toNat * 8)).off + 3, none⟩ = some (.string ((rd_T34 l0 x5_1).f3)) ∧ w'.cell? ⟨(ad329.add ((x5_1).toNat * 8)).block, (ad329.add ((x5_1).toNat * 8)).off + 4, none⟩ = some (.slice A332_4 ((rd_T34 l0 x5_1).f4).length c332_4) ∧ w'.cell? ⟨(ad329.add ((x5_1).toNat * 8)).block, (ad329.add ((x5_1).toNat * 8)).off + 5, none⟩ = some (.slice A332_5 ((rd_T34 l0 x5_1).f5).length c332_5) ∧ w'.cell? ⟨(ad329.add ((x5_1).toNat * 8)).block, (ad329.add ((x5_1).toNat * 8)).off + 6, none⟩ = some (.slice A332_6 ((rd_T34 l0 x5_1).f6).length c332_6) ∧ w'.cell? ⟨(ad329.add ((x5_1).toNat * 8)).block, (ad329.add ((x5_1).toNat * 8)).off + 7, none⟩ = some (.string ((rd_T34 l0 x5_1).f7))) (ds := []) #[false, false, false, false, false, false, false, false] (by kernel_rfl) rfl rfl ⟨(pw_cell_below HB.out hw332_0), (pw_cell_below HB.out hw332_1), (pw_cell_below HB.out hw332_2), (pw_cell_below HB.out hw332_3), (pw_cell_below HB.out hw332_4), (pw_cell_below HB.out hw332_5), (pw_cell_below HB.out hw332_6), (pw_cell_below HB.out hw332_7)⟩ (fun hHeld => ?_); refine with_tabW laws_heldNodeS.tab10 laws_heldNodeS.bits10 (fun HT_ HW_ => ?_)
      generalize w8.drew = w11 at HB HR332_4 HR332_5 HR332_6 hx332_0 hx332_1 hx332_2 hx332_3 hx332_4 hx332_5 hx332_6 hx332_7 hHeld ⊢
      refine pU 0 31 (tf 1 7) ?_
      refine pU 1 32 (tf 2 6) ?_
      refine pU 2 33 (tf 3 5) ?_
      refine pU 3 34 (tf 4 4) ?_
      refine pU 5 36 #[true, true, true, true, false, true, false, false] ?_
      refine take_ (i := 4) (N := some 35) (v := ?_) (a' := ?_) (tf 6 2) rfl rfl (take_ofW HT_.out HW_.out (by kernel_rfl)) (fun _ _ _ h => h) (Or.inl ⟨by rfl, ?_⟩) hHeld ?_ ?_
      rotate_left
      ·rintro w' ⟨s0, s1, s2, s3, s4, s5, s6, s7⟩
       go_simp
       with_reducible rfl
      rotate_left
      ·simp only [Act.put, sT, sZ, sS, i64_w, i32_w]
       rfl
      refine one_ (i := 6) (N := some 37) (tf 7 1) rfl rfl (one_of HT_.out (by kernel_rfl)) (by decide) (fun K hK => ?_)
      refine goes_ Try.func48 (by kernel_rfl) rfl #[.int .i64 (wrap64 ((wrap64 (x1_1 + 1)) + 1))] (by rfl) rfl rfl mA ?_
      with_reducible refine (laws_markText.calls k1 (wrap64 ((wrap64 (x1_1 + 1)) + 1)) t333 _ A10.out).mono ?_
      rintro e w12 ⟨rfl, hb⟩
      refine ⟨_, rfl, ?_⟩
      replace HB := Aside0.mk (below_step hB hb)
      (try clear hb)
      (try clear hb2)
      (try clear hk)
      (try clear hi)
      refine hK.out _ _ ⟨(pw_cell_below HB.out hw332_0), (pw_cell_below HB.out hw332_1), (pw_cell_below HB.out hw332_2), (pw_cell_below HB.out hw332_3), (pw_cell_below HB.out hw332_4), (pw_cell_below HB.out hw332_5), (pw_cell_below HB.out hw332_6), (pw_cell_below HB.out hw332_7)⟩ (fun hHeld => ?_)
      clear hK K
      refine norm_ (a' := ?_) ?_ ?_
      rotate_left
      ·show Act.put _ (some 37) _ = _
       simp only [Act.put, sT, sZ, sS, i64_w, i32_w]
       rfl
      refine pU 7 38 (tf 8 0) ?_
      refine done_ (done_of HT_.out (by kernel_rfl)) ?_
      by_cases c13 : ((rd_T34 l0 x5_1).f2).toList = t333.toList
      ·rw [if_pos c13] at H
       obtain ⟨c13b0, c13b1⟩ := eqT c13
       clear c13
       (first | rw [c13b0] | (simp only [i64_w, i32_w]; rw [c13b0]) | skip)
       replace H := Option.bind_eq_some_iff.mp H
       obtain ⟨t335, A140, H⟩ := H
       try dsimp only at H
       have A14 := Aside0.mk A140
       clear A140
       try go_wp2
       replace HB := Aside0.mk (below_drew1 HB.out)
       have p334 : 0 ≤ (x5_1 : Int) := odt
       have q334 : x5_1 < (l0.length : Int) := odt
       obtain ⟨ad334, A334_4, c334_4, A334_5, c334_5, A334_6, c334_6, e334, hx334_0, hx334_1, hx334_2, hx334_3, hx334_4, hx334_5, hx334_6, hx334_7, hl334_4, hi334_4, hl334_5, hi334_5, hl334_6, hi334_6⟩ := at_T34 HR0.out x5_1 p334 q334
       have hw334_7 := hx334_7
       have hw334_6 := hx334_6
       have hw334_5 := hx334_5
       have hw334_4 := hx334_4
       have hw334_3 := hx334_3
       have hw334_2 := hx334_2
       have hw334_1 := hx334_1
       have hw334_0 := hx334_0
       obtain rfl : ad329 = ad334 := (by injection e334)
       replace hx334_0 := pw_cell_below HB.out hx334_0
       replace hx334_1 := pw_cell_below HB.out hx334_1
       replace hx334_2 := pw_cell_below HB.out hx334_2
       replace hx334_3 := pw_cell_below HB.out hx334_3
       replace hx334_4 := pw_cell_below HB.out hx334_4
       replace hx334_5 := pw_cell_below HB.out hx334_5
       replace hx334_6 := pw_cell_below HB.out hx334_6
       replace hx334_7 := pw_cell_below HB.out hx334_7
       have HR334_4 := Aside0.mk hi334_4
       have HC334_4 := Aside0.mk hl334_4
       clear hi334_4 hl334_4
       have HR334_5 := Aside0.mk hi334_5
       have HC334_5 := Aside0.mk hl334_5
       clear hi334_5 hl334_5
       have HR334_6 := Aside0.mk hi334_6
       have HC334_6 := Aside0.mk hl334_6
       clear hi334_6 hl334_6
       replace p334 := eq_true p334
       replace q334 := eq_true q334
       refine start_ (n := 8) (S := fun w' => w'.cell? (ad329.add ((x5_1).toNat * 8)) = some (.int .i64 ((rd_T34 l0 x5_1).f0)) ∧ w'.cell? ⟨(ad329.add ((x5_1).toNat * 8)).block, (ad329.add ((x5_1).toNat * 8)).off + 1, none⟩ = some (.string ((rd_T34 l0 x5_1).f1)) ∧ w'.cell? ⟨(ad329.add ((x5_1).toNat * 8)).block, (ad329.add ((x5_1).toNat * 8)).off + 2, none⟩ = some (.string ((rd_T34 l0 x5_1).f2)) ∧ w'.cell? ⟨(ad329.add ((x5_1).toNat * 8)).block, (ad329.add ((x5_1).toNat * 8)).off + 3, none⟩ = some (.string ((rd_T34 l0 x5_1).f3)) ∧ w'.cell? ⟨(ad329.add ((x5_1).toNat * 8)).block, (ad329.add ((x5_1).toNat * 8)).off + 4, none⟩ = some (.slice A334_4 ((rd_T34 l0 x5_1).f4).length c334_4) ∧ w'.cell? ⟨(ad329.add ((x5_1).toNat * 8)).block, (ad329.add ((x5_1).toNat * 8)).off + 5, none⟩ = some (.slice A334_5 ((rd_T34 l0 x5_1).f5).length c334_5) ∧ w'.cell? ⟨(ad329.add ((x5_1).toNat * 8)).block, (ad329.add ((x5_1).toNat * 8)).off + 6, none⟩ = some (.slice A334_6 ((rd_T34 l0 x5_1).f6).length c334_6) ∧ w'.cell? ⟨(ad329.add ((x5_1).toNat * 8)).block, (ad329.add ((x5_1).toNat * 8)).off + 7, none⟩ = some (.string ((rd_T34 l0 x5_1).f7))) (ds := []) #[false, false, false, false, false, false, false, false] (by kernel_rfl) rfl rfl ⟨(pw_cell_below HB.out hw334_0), (pw_cell_below HB.out hw334_1), (pw_cell_below HB.out hw334_2), (pw_cell_below HB.out hw334_3), (pw_cell_below HB.out hw334_4), (pw_cell_below HB.out hw334_5), (pw_cell_below HB.out hw334_6), (pw_cell_below HB.out hw334_7)⟩ (fun hHeld => ?_); refine with_tabW laws_heldNodeS.tab13 laws_heldNodeS.bits13 (fun HT_ HW_ => ?_)
       generalize w12.drew = w15 at HB HR334_4 HR334_5 HR334_6 hx334_0 hx334_1 hx334_2 hx334_3 hx334_4 hx334_5 hx334_6 hx334_7 hHeld ⊢
       refine pU 0 41 (tf 1 7) ?_
       refine pU 1 42 (tf 2 6) ?_
       refine pU 2 43 (tf 3 5) ?_
       refine pU 3 44 (tf 4 4) ?_
       refine pU 5 46 #[true, true, true, true, false, true, false, false] ?_
       refine take_ (i := 4) (N := some 45) (v := ?_) (a' := ?_) (tf 6 2) rfl rfl (take_ofW HT_.out HW_.out (by kernel_rfl)) (fun _ _ _ h => h) (Or.inl ⟨by rfl, ?_⟩) hHeld ?_ ?_
       rotate_left
       ·rintro w' ⟨s0, s1, s2, s3, s4, s5, s6, s7⟩
        go_simp
        with_reducible rfl
       rotate_left
       ·simp only [Act.put, sT, sZ, sS, i64_w, i32_w]
        rfl
       refine one_ (i := 6) (N := some 47) (tf 7 1) rfl rfl (one_of HT_.out (by kernel_rfl)) (by decide) (fun K hK => ?_)
       refine goes_ Try.func48 (by kernel_rfl) rfl #[.int .i64 (wrap64 ((wrap64 ((wrap64 (x1_1 + 1)) + 1)) + 1))] (by rfl) rfl rfl mA ?_
       with_reducible refine (laws_markText.calls k1 (wrap64 ((wrap64 ((wrap64 (x1_1 + 1)) + 1)) + 1)) t335 _ A14.out).mono ?_
       rintro e w16 ⟨rfl, hb⟩
       refine ⟨_, rfl, ?_⟩
       replace HB := Aside0.mk (below_step hB hb)
       (try clear hb)
       (try clear hb2)
       (try clear hk)
       (try clear hi)
       refine hK.out _ _ ⟨(pw_cell_below HB.out hw334_0), (pw_cell_below HB.out hw334_1), (pw_cell_below HB.out hw334_2), (pw_cell_below HB.out hw334_3), (pw_cell_below HB.out hw334_4), (pw_cell_below HB.out hw334_5), (pw_cell_below HB.out hw334_6), (pw_cell_below HB.out hw334_7)⟩ (fun hHeld => ?_)
       clear hK K
       refine norm_ (a' := ?_) ?_ ?_
       rotate_left
       ·show Act.put _ (some 47) _ = _
        simp only [Act.put, sT, sZ, sS, i64_w, i32_w]
        rfl
       refine pU 7 48 (tf 8 0) ?_
       refine done_ (done_of HT_.out (by kernel_rfl)) ?_
       by_cases c17 : ((rd_T34 l0 x5_1).f3).toList = t335.toList
       ·rw [if_pos c17] at H
        obtain ⟨c17b0, c17b1⟩ := eqT c17
        clear c17
        (first | rw [c17b0] | (simp only [i64_w, i32_w]; rw [c17b0]) | skip)
        replace H := Option.bind_eq_some_iff.mp H
        obtain ⟨t337, A180, H⟩ := H
        try dsimp only at H
        have A18 := Aside0.mk A180
        clear A180
        have p336 : 0 ≤ (x5_1 : Int) := odt
        have q336 : x5_1 < (l0.length : Int) := odt
        obtain ⟨ad336, A336_4, c336_4, A336_5, c336_5, A336_6, c336_6, e336, hx336_0, hx336_1, hx336_2, hx336_3, hx336_4, hx336_5, hx336_6, hx336_7, hl336_4, hi336_4, hl336_5, hi336_5, hl336_6, hi336_6⟩ := at_T34 HR0.out x5_1 p336 q336
        obtain rfl : ad329 = ad336 := (by injection e336)
        replace hx336_0 := pw_cell_below HB.out hx336_0
        replace hx336_1 := pw_cell_below HB.out hx336_1
        replace hx336_2 := pw_cell_below HB.out hx336_2
        replace hx336_3 := pw_cell_below HB.out hx336_3
        replace hx336_4 := pw_cell_below HB.out hx336_4
        replace hx336_5 := pw_cell_below HB.out hx336_5
        replace hx336_6 := pw_cell_below HB.out hx336_6
        replace hx336_7 := pw_cell_below HB.out hx336_7
        have HR336_4 := Aside0.mk hi336_4
        have HC336_4 := Aside0.mk hl336_4
        clear hi336_4 hl336_4
        have HR336_5 := Aside0.mk hi336_5
        have HC336_5 := Aside0.mk hl336_5
        clear hi336_5 hl336_5
        have HR336_6 := Aside0.mk hi336_6
        have HC336_6 := Aside0.mk hl336_6
        clear hi336_6 hl336_6
        replace p336 := eq_true p336
        replace q336 := eq_true q336
        try clear hHeld
        go_wp2_with (first | ((with_reducible refine gate_callee (f := 49) rfl ?_); refine goesL_ (some 57) rfl rfl Try.func49 (by kernel_rfl) rfl #[.slice A336_4 ((rd_T34 l0 x5_1).f4).length c336_4, .int .i64 (wrap64 ((wrap64 ((wrap64 ((wrap64 (x1_1 + 1)) + 1)) + 1)) + 1))] rfl mA ?_; (with_reducible refine (laws_heldDeclS.calls k1 _ _ ((rd_T34 l0 x5_1).f4) (wrap64 ((wrap64 ((wrap64 ((wrap64 (x1_1 + 1)) + 1)) + 1)) + 1)) t337 _ ?side1 ?side2 A18.out).mono ?_); (case side1 => repeat (first | exact (Kd.C_below HR336_4.out HB.out) | (with_reducible refine Kd.C_alloc ?_ _) | (with_reducible refine Kd.C_drewN ?_ _) | (with_reducible refine Kd.C_drew ?_))); (case side2 => exact HC336_4.out); rintro e w19 ⟨rfl, hb⟩; refine ⟨_, rfl, ?_⟩; replace HB := Aside0.mk (below_step hB hb); (try clear hb); (try clear hb2); (try clear hk); (try clear hi); refine halt_ ?_; intro q_ hq_))
        obtain ⟨rfl⟩ := hq_
        by_cases c20 : t337 < 0
        ·rw [if_pos c20] at H
         have c20b0 : decide (t337 < 0) = true := decide_eq_true c20
         clear c20
         obtain rfl := Option.some.inj H
         go_wp2
         go_ret
         exact ⟨rE, hB⟩
        ·rw [if_neg c20] at H
         have c20b0 : decide (t337 < 0) = false := decide_eq_false c20
         clear c20
         replace H := Option.bind_eq_some_iff.mp H
         obtain ⟨t339, A210, H⟩ := H
         try dsimp only at H
         have A21 := Aside0.mk A210
         clear A210
         have p338 : 0 ≤ (x5_1 : Int) := odt
         have q338 : x5_1 < (l0.length : Int) := odt
         obtain ⟨ad338, A338_4, c338_4, A338_5, c338_5, A338_6, c338_6, e338, hx338_0, hx338_1, hx338_2, hx338_3, hx338_4, hx338_5, hx338_6, hx338_7, hl338_4, hi338_4, hl338_5, hi338_5, hl338_6, hi338_6⟩ := at_T34 HR0.out x5_1 p338 q338
         obtain rfl : ad329 = ad338 := (by injection e338)
         replace hx338_0 := pw_cell_below HB.out hx338_0
         replace hx338_1 := pw_cell_below HB.out hx338_1
         replace hx338_2 := pw_cell_below HB.out hx338_2
         replace hx338_3 := pw_cell_below HB.out hx338_3
         replace hx338_4 := pw_cell_below HB.out hx338_4
         replace hx338_5 := pw_cell_below HB.out hx338_5
         replace hx338_6 := pw_cell_below HB.out hx338_6
         replace hx338_7 := pw_cell_below HB.out hx338_7
         have HR338_4 := Aside0.mk hi338_4
         have HC338_4 := Aside0.mk hl338_4
         clear hi338_4 hl338_4
         have HR338_5 := Aside0.mk hi338_5
         have HC338_5 := Aside0.mk hl338_5
         clear hi338_5 hl338_5
         have HR338_6 := Aside0.mk hi338_6
         have HC338_6 := Aside0.mk hl338_6
         clear hi338_6 hl338_6
         replace p338 := eq_true p338
         replace q338 := eq_true q338
         go_wp2_with (first | ((with_reducible refine gate_callee (f := 50) rfl ?_); refine goesL_ (some 66) rfl rfl Try.func50 (by kernel_rfl) rfl #[.slice A338_5 ((rd_T34 l0 x5_1).f5).length c338_5, .int .i64 t337] rfl mA ?_; (with_reducible refine (laws_heldAttrS.calls k1 _ _ ((rd_T34 l0 x5_1).f5) t337 t339 _ ?side1 ?side2 A21.out).mono ?_); (case side1 => repeat (first | exact (Kd.C_below HR338_5.out HB.out) | (with_reducible refine Kd.C_alloc ?_ _) | (with_reducible refine Kd.C_drewN ?_ _) | (with_reducible refine Kd.C_drew ?_))); (case side2 => exact HC338_5.out); rintro e w22 ⟨rfl, hb⟩; refine ⟨_, rfl, ?_⟩; replace HB := Aside0.mk (below_step hB hb); (try clear hb); (try clear hb2); (try clear hk); (try clear hi); refine halt_ ?_; intro q_ hq_))
         obtain ⟨rfl⟩ := hq_
         by_cases c23 : t339 < 0
         ·rw [if_pos c23] at H
          have c23b0 : decide (t339 < 0) = true := decide_eq_true c23
          clear c23
          obtain rfl := Option.some.inj H
          go_wp2
          go_ret
          exact ⟨rE, hB⟩
         ·rw [if_neg c23] at H
          have c23b0 : decide (t339 < 0) = false := decide_eq_false c23
          clear c23
          replace H := Option.bind_eq_some_iff.mp H
          obtain ⟨t341, A240, H⟩ := H
          try dsimp only at H
          have A24 := Aside0.mk A240
          clear A240
          have p340 : 0 ≤ (x5_1 : Int) := odt
          have q340 : x5_1 < (l0.length : Int) := odt
          obtain ⟨ad340, A340_4, c340_4, A340_5, c340_5, A340_6, c340_6, e340, hx340_0, hx340_1, hx340_2, hx340_3, hx340_4, hx340_5, hx340_6, hx340_7, hl340_4, hi340_4, hl340_5, hi340_5, hl340_6, hi340_6⟩ := at_T34 HR0.out x5_1 p340 q340
          obtain rfl : ad329 = ad340 := (by injection e340)
          replace hx340_0 := pw_cell_below HB.out hx340_0
          replace hx340_1 := pw_cell_below HB.out hx340_1
          replace hx340_2 := pw_cell_below HB.out hx340_2
          replace hx340_3 := pw_cell_below HB.out hx340_3
          replace hx340_4 := pw_cell_below HB.out hx340_4
          replace hx340_5 := pw_cell_below HB.out hx340_5
          replace hx340_6 := pw_cell_below HB.out hx340_6
          replace hx340_7 := pw_cell_below HB.out hx340_7
          have HR340_4 := Aside0.mk hi340_4
          have HC340_4 := Aside0.mk hl340_4
          clear hi340_4 hl340_4
          have HR340_5 := Aside0.mk hi340_5
          have HC340_5 := Aside0.mk hl340_5
          clear hi340_5 hl340_5
          have HR340_6 := Aside0.mk hi340_6
          have HC340_6 := Aside0.mk hl340_6
          clear hi340_6 hl340_6
          replace p340 := eq_true p340
          replace q340 := eq_true q340
          go_wp2_with (first | ((with_reducible refine gate_callee (f := 23) rfl ?_); refine goesL_ (some 75) rfl rfl Try.func23 (by kernel_rfl) rfl #[.slice A340_6 ((rd_T34 l0 x5_1).f6).length c340_6, .int .i64 t339] rfl mA ?_; (with_reducible refine (ih k1 (by have := HK1.out; omega) _ _ ((rd_T34 l0 x5_1).f6) t339 t341 _ ?side1 ?side2 A24.out).mono ?_); (case side1 => repeat (first | exact (Kd.C_below HR340_6.out HB.out) | (with_reducible refine Kd.C_alloc ?_ _) | (with_reducible refine Kd.C_drewN ?_ _) | (with_reducible refine Kd.C_drew ?_))); (case side2 => exact HC340_6.out); rintro e w25 ⟨rfl, hb⟩; refine ⟨_, rfl, ?_⟩; replace HB := Aside0.mk (below_step hB hb); (try clear hb); (try clear hb2); (try clear hk); (try clear hi); refine halt_ ?_; intro q_ hq_))
          obtain ⟨rfl⟩ := hq_
          by_cases c26 : t341 < 0
          ·rw [if_pos c26] at H
           have c26b0 : decide (t341 < 0) = true := decide_eq_true c26
           clear c26
           obtain rfl := Option.some.inj H
           go_wp2
           go_ret
           exact ⟨rE, hB⟩
          ·rw [if_neg c26] at H
           have c26b0 : decide (t341 < 0) = false := decide_eq_false c26
           clear c26
           replace H := Option.bind_eq_some_iff.mp H
           obtain ⟨t343, A270, H⟩ := H
           try dsimp only at H
           have A27 := Aside0.mk A270
           clear A270
           try go_wp2
           replace HB := Aside0.mk (below_drew1 HB.out)
           have p342 : 0 ≤ (x5_1 : Int) := odt
           have q342 : x5_1 < (l0.length : Int) := odt
           obtain ⟨ad342, A342_4, c342_4, A342_5, c342_5, A342_6, c342_6, e342, hx342_0, hx342_1, hx342_2, hx342_3, hx342_4, hx342_5, hx342_6, hx342_7, hl342_4, hi342_4, hl342_5, hi342_5, hl342_6, hi342_6⟩ := at_T34 HR0.out x5_1 p342 q342
           have hw342_7 := hx342_7
           have hw342_6 := hx342_6
           have hw342_5 := hx342_5
           have hw342_4 := hx342_4
           have hw342_3 := hx342_3
           have hw342_2 := hx342_2
           have hw342_1 := hx342_1
           have hw342_0 := hx342_0
           obtain rfl : ad329 = ad342 := (by injection e342)
           replace hx342_0 := pw_cell_below HB.out hx342_0
           replace hx342_1 := pw_cell_below HB.out hx342_1
           replace hx342_2 := pw_cell_below HB.out hx342_2
           replace hx342_3 := pw_cell_below HB.out hx342_3
           replace hx342_4 := pw_cell_below HB.out hx342_4
           replace hx342_5 := pw_cell_below HB.out hx342_5
           replace hx342_6 := pw_cell_below HB.out hx342_6
           replace hx342_7 := pw_cell_below HB.out hx342_7
           have HR342_4 := Aside0.mk hi342_4
           have HC342_4 := Aside0.mk hl342_4
           clear hi342_4 hl342_4
           have HR342_5 := Aside0.mk hi342_5
           have HC342_5 := Aside0.mk hl342_5
           clear hi342_5 hl342_5
           have HR342_6 := Aside0.mk hi342_6
           have HC342_6 := Aside0.mk hl342_6
           clear hi342_6 hl342_6
           replace p342 := eq_true p342
           replace q342 := eq_true q342
           refine start_ (n := 8) (S := fun w' => w'.cell? (ad329.add ((x5_1).toNat * 8)) = some (.int .i64 ((rd_T34 l0 x5_1).f0)) ∧ w'.cell? ⟨(ad329.add ((x5_1).toNat * 8)).block, (ad329.add ((x5_1).toNat * 8)).off + 1, none⟩ = some (.string ((rd_T34 l0 x5_1).f1)) ∧ w'.cell? ⟨(ad329.add ((x5_1).toNat * 8)).block, (ad329.add ((x5_1).toNat * 8)).off + 2, none⟩ = some (.string ((rd_T34 l0 x5_1).f2)) ∧ w'.cell? ⟨(ad329.add ((x5_1).toNat * 8)).block, (ad329.add ((x5_1).toNat * 8)).off + 3, none⟩ = some (.string ((rd_T34 l0 x5_1).f3)) ∧ w'.cell? ⟨(ad329.add ((x5_1).toNat * 8)).block, (ad329.add ((x5_1).toNat * 8)).off + 4, none⟩ = some (.slice A342_4 ((rd_T34 l0 x5_1).f4).length c342_4) ∧ w'.cell? ⟨(ad329.add ((x5_1).toNat * 8)).block, (ad329.add ((x5_1).toNat * 8)).off + 5, none⟩ = some (.slice A342_5 ((rd_T34 l0 x5_1).f5).length c342_5) ∧ w'.cell? ⟨(ad329.add ((x5_1).toNat * 8)).block, (ad329.add ((x5_1).toNat * 8)).off + 6, none⟩ = some (.slice A342_6 ((rd_T34 l0 x5_1).f6).length c342_6) ∧ w'.cell? ⟨(ad329.add ((x5_1).toNat * 8)).block, (ad329.add ((x5_1).toNat * 8)).off + 7, none⟩ = some (.string ((rd_T34 l0 x5_1).f7))) (ds := []) #[false, false, false, false, false, false, false, false] (by kernel_rfl) rfl rfl ⟨(pw_cell_below HB.out hw342_0), (pw_cell_below HB.out hw342_1), (pw_cell_below HB.out hw342_2), (pw_cell_below HB.out hw342_3), (pw_cell_below HB.out hw342_4), (pw_cell_below HB.out hw342_5), (pw_cell_below HB.out hw342_6), (pw_cell_below HB.out hw342_7)⟩ (fun hHeld => ?_); refine with_tabW laws_heldNodeS.tab25 laws_heldNodeS.bits25 (fun HT_ HW_ => ?_)
           generalize w25.drew = w28 at HB HR342_4 HR342_5 HR342_6 hx342_0 hx342_1 hx342_2 hx342_3 hx342_4 hx342_5 hx342_6 hx342_7 hHeld ⊢
           refine pU 0 78 (tf 1 7) ?_
           refine pU 1 79 (tf 2 6) ?_
           refine pU 2 80 (tf 3 5) ?_
           refine pU 3 81 (tf 4 4) ?_
           refine pU 5 83 #[true, true, true, true, false, true, false, false] ?_
           refine take_ (i := 4) (N := some 82) (v := ?_) (a' := ?_) (tf 6 2) rfl rfl (take_ofW HT_.out HW_.out (by kernel_rfl)) (fun _ _ _ h => h) (Or.inl ⟨by rfl, ?_⟩) hHeld ?_ ?_
           rotate_left
           ·rintro w' ⟨s0, s1, s2, s3, s4, s5, s6, s7⟩
            go_simp
            with_reducible rfl
           rotate_left
           ·simp only [Act.put, sT, sZ, sS, i64_w, i32_w]
            rfl
           refine one_ (i := 6) (N := some 84) (tf 7 1) rfl rfl (one_of HT_.out (by kernel_rfl)) (by decide) (fun K hK => ?_)
           refine goes_ Try.func48 (by kernel_rfl) rfl #[.int .i64 t341] (by rfl) rfl rfl mA ?_
           with_reducible refine (laws_markText.calls k1 t341 t343 _ A27.out).mono ?_
           rintro e w29 ⟨rfl, hb⟩
           refine ⟨_, rfl, ?_⟩
           replace HB := Aside0.mk (below_step hB hb)
           (try clear hb)
           (try clear hb2)
           (try clear hk)
           (try clear hi)
           refine hK.out _ _ ⟨(pw_cell_below HB.out hw342_0), (pw_cell_below HB.out hw342_1), (pw_cell_below HB.out hw342_2), (pw_cell_below HB.out hw342_3), (pw_cell_below HB.out hw342_4), (pw_cell_below HB.out hw342_5), (pw_cell_below HB.out hw342_6), (pw_cell_below HB.out hw342_7)⟩ (fun hHeld => ?_)
           clear hK K
           refine norm_ (a' := ?_) ?_ ?_
           rotate_left
           ·show Act.put _ (some 84) _ = _
            simp only [Act.put, sT, sZ, sS, i64_w, i32_w]
            rfl
           refine pU 7 85 (tf 8 0) ?_
           refine done_ (done_of HT_.out (by kernel_rfl)) ?_
           by_cases c30 : ((rd_T34 l0 x5_1).f7).toList = t343.toList
           ·rw [if_pos c30] at H
            obtain ⟨c30b0, c30b1⟩ := eqT c30
            clear c30
            (first | rw [c30b0] | (simp only [i64_w, i32_w]; rw [c30b0]) | skip)
            have H' := Aside0.mk H
            clear H
            go_wp2
            go_roundg k1
            case measure => have := HK1.out; omega
            case rel => exact ⟨(wrap64 (t341 + 1)), (wrap64 (x5_1 + 1)), rG, rG, H', ⟨by have := HK1.out; omega⟩, ⟨hB⟩⟩
           ·rw [if_neg c30] at H
            obtain ⟨c30b0, c30b1⟩ := eqF c30
            (first | rw [c30b0] | (simp only [i64_w, i32_w]; rw [c30b0]) | skip)
            obtain rfl := Option.some.inj H
            go_wp2
            go_ret
            exact ⟨rE, hB⟩
       ·rw [if_neg c17] at H
        obtain ⟨c17b0, c17b1⟩ := eqF c17
        (first | rw [c17b0] | (simp only [i64_w, i32_w]; rw [c17b0]) | skip)
        obtain rfl := Option.some.inj H
        go_wp2
        go_ret
        exact ⟨rE, hB⟩
      ·rw [if_neg c13] at H
       obtain ⟨c13b0, c13b1⟩ := eqF c13
       (first | rw [c13b0] | (simp only [i64_w, i32_w]; rw [c13b0]) | skip)
       obtain rfl := Option.some.inj H
       go_wp2
       go_ret
       exact ⟨rE, hB⟩
     ·rw [if_neg c9] at H
      obtain ⟨c9b0, c9b1⟩ := eqF c9
      (first | rw [c9b0] | (simp only [i64_w, i32_w]; rw [c9b0]) | skip)
      obtain rfl := Option.some.inj H
      go_wp2
      go_ret
      exact ⟨rE, hB⟩
    ·rw [if_neg c5] at H
     obtain ⟨c5b0, c5b1⟩ := eqF c5
     obtain rfl := Option.some.inj H
     have p329 : 0 ≤ (x5_1 : Int) := odt
     have q329 : x5_1 < (l0.length : Int) := odt
     obtain ⟨ad329, A329_4, c329_4, A329_5, c329_5, A329_6, c329_6, e329, hx329_0, hx329_1, hx329_2, hx329_3, hx329_4, hx329_5, hx329_6, hx329_7, hl329_4, hi329_4, hl329_5, hi329_5, hl329_6, hi329_6⟩ := at_T34 HR0.out x5_1 p329 q329
     cases e329
     replace hx329_0 := pw_cell_below HB.out hx329_0
     replace hx329_1 := pw_cell_below HB.out hx329_1
     replace hx329_2 := pw_cell_below HB.out hx329_2
     replace hx329_3 := pw_cell_below HB.out hx329_3
     replace hx329_4 := pw_cell_below HB.out hx329_4
     replace hx329_5 := pw_cell_below HB.out hx329_5
     replace hx329_6 := pw_cell_below HB.out hx329_6
     replace hx329_7 := pw_cell_below HB.out hx329_7
     have HR329_4 := Aside0.mk hi329_4
     have HC329_4 := Aside0.mk hl329_4
     clear hi329_4 hl329_4
     have HR329_5 := Aside0.mk hi329_5
     have HC329_5 := Aside0.mk hl329_5
     clear hi329_5 hl329_5
     have HR329_6 := Aside0.mk hi329_6
     have HC329_6 := Aside0.mk hl329_6
     clear hi329_6 hl329_6
     replace p329 := eq_true p329
     replace q329 := eq_true q329
     go_wp2
     go_ret
     exact ⟨rE, hB⟩
   ·rw [if_neg c3] at H
    have c3b0 : decide (x5_1 < (l0.length : Int)) = false := decide_eq_false c3
    clear c3
    obtain rfl := Option.some.inj H
    go_wp2
    go_ret
    exact ⟨rE, hB⟩

/-! ### laws_heldNode: function 29 -/
def laws_heldNode.f (k : Nat) (a0_0 : Int) (a0_1 : ByteArray) (a0_2 : ByteArray) (a0_3 : ByteArray) (l0_4 : List (S88)) (l0_5 : List (S90)) (l0_6 : List (S34)) (a0_7 : ByteArray) (a1 : Int) : Option (Int) := (laws_heldDeclS.f k l0_4 a1).bind fun t345 => (if t345 < 0 then (some (-1)) else ((laws_heldAttrS.f k l0_5 t345).bind fun t346 => (if t346 < 0 then (some (-1)) else ((laws_heldNodeS.f k l0_6 t346).bind fun t347 => (if t347 < 0 then (some (-1)) else (some t347))))))
theorem laws_heldNode.calls (k : Nat) (a0_0 : Int) (a0_1 : ByteArray) (a0_2 : ByteArray) (a0_3 : ByteArray) (A0_4 : Option Addr) (c0_4 : Nat) (l0_4 : List (S88)) (A0_5 : Option Addr) (c0_5 : Nat) (l0_5 : List (S90)) (A0_6 : Option Addr) (c0_6 : Nat) (l0_6 : List (S34)) (a0_7 : ByteArray) (a1 : Int) (r : Int) (w : World) (hr0_4 : Kd.C k88 w A0_4 l0_4.length l0_4) (hc0_4 : l0_4.length ≤ c0_4) (hr0_5 : Kd.C k90 w A0_5 l0_5.length l0_5) (hc0_5 : l0_5.length ≤ c0_5) (hr0_6 : Kd.C k34 w A0_6 l0_6.length l0_6) (hc0_6 : l0_6.length ≤ c0_6) (h : laws_heldNode.f k a0_0 a0_1 a0_2 a0_3 l0_4 l0_5 l0_6 a0_7 a1 = some r) :
  Calls Try.prog 29 #[.agg #[.int .i64 a0_0, .string a0_1, .string a0_2, .string a0_3, .slice A0_4 l0_4.length c0_4, .slice A0_5 l0_5.length c0_5, .slice A0_6 l0_6.length c0_6, .string a0_7], .int .i64 a1] w fun e w' => e = .returned (.int .i64 r) ∧ Below w.heap.size w w' := by
 have hu34 := Try.underlying34
 have HR0_4 := Aside0.mk hr0_4
 have HC0_4 := Aside0.mk hc0_4
 clear hr0_4 hc0_4
 have HR0_5 := Aside0.mk hr0_5
 have HC0_5 := Aside0.mk hc0_5
 clear hr0_5 hc0_5
 have HR0_6 := Aside0.mk hr0_6
 have HC0_6 := Aside0.mk hc0_6
 clear hr0_6 hc0_6
 have HB := Aside0.mk (Below.refl w.heap.size w)
 have H : ((laws_heldDeclS.f k l0_4 a1).bind fun t345 => (if t345 < 0 then (some (-1)) else ((laws_heldAttrS.f k l0_5 t345).bind fun t346 => (if t346 < 0 then (some (-1)) else ((laws_heldNodeS.f k l0_6 t346).bind fun t347 => (if t347 < 0 then (some (-1)) else (some t347))))))) = some r := h
 clear h
 replace H := Option.bind_eq_some_iff.mp H
 obtain ⟨t345, A30, H⟩ := H
 try dsimp only at H
 have A3 := Aside0.mk A30
 clear A30
 go_enter Try.func29, Try.ntmps29
 go_wp2_with (first | ((with_reducible refine gate_dst (N := 2) rfl ?_); refine box_event ?hg (N := 2) ?hd (cs := #[.int .i64 a0_0, .string a0_1, .string a0_2, .string a0_3, .slice A0_4 l0_4.length c0_4, .slice A0_5 l0_5.length c0_5, .slice A0_6 l0_6.length c0_6, .string a0_7]) (t := 34) ?hr ?_; (case hd => rfl); (case hg => rfl); (case hr => first | (go_simp; done) | (go_simp; rfl)); intro gb344 hg w4 hbox hb; have BK344 := Aside0.mk (hbox); have GW344 := Aside0.mk ((by rw [hg]; exact (below_size hB) : w.heap.size ≤ gb344)); have GE344 := Aside0.mk ((by rw [hg]; exact (below_size hB) : w.heap.size ≤ gb344)); replace HB := Aside0.mk (below_step hB hb); clear hb hbox hg; obtain ⟨hcz5_0, hcz5_1, hcz5_2, hcz5_3, hcz5_4, hcz5_5, hcz5_6, hcz5_7⟩ := bc8 BK344.out) | ((with_reducible refine gate_callee (f := 49) rfl ?_); refine goesL_ (some 8) rfl rfl Try.func49 (by kernel_rfl) rfl #[.slice A0_4 l0_4.length c0_4, .int .i64 a1] rfl mA ?_; (with_reducible refine (laws_heldDeclS.calls k _ _ l0_4 a1 t345 _ ?side1 ?side2 A3.out).mono ?_); (case side1 => repeat (first | exact (Kd.C_below HR0_4.out HB.out) | (with_reducible refine Kd.C_alloc ?_ _) | (with_reducible refine Kd.C_drewN ?_ _) | (with_reducible refine Kd.C_drew ?_))); (case side2 => exact HC0_4.out); rintro e w6 ⟨rfl, hb⟩; refine ⟨_, rfl, ?_⟩; replace BK344 := Aside0.mk (blk_below (g := gb344) (by (with_reducible repeat (first | refine bN ?_ _|refine bD ?_|refine bA ?_ _)); exact BK344.out) hb); replace HB := Aside0.mk (below_step hB hb); (try clear hb); (try clear hb2); (try clear hk); (try clear hi); refine halt_ ?_; intro q_ hq_))
 obtain ⟨rfl⟩ := hq_
 by_cases c7 : t345 < 0
 ·rw [if_pos c7] at H
  have c7b0 : decide (t345 < 0) = true := decide_eq_true c7
  clear c7
  obtain rfl := Option.some.inj H
  go_wp2
  go_ret
  exact ⟨rE, hB⟩
 ·rw [if_neg c7] at H
  have c7b0 : decide (t345 < 0) = false := decide_eq_false c7
  clear c7
  replace H := Option.bind_eq_some_iff.mp H
  obtain ⟨t346, A80, H⟩ := H
  try dsimp only at H
  have A8 := Aside0.mk A80
  clear A80
  obtain ⟨hcz9_0, hcz9_1, hcz9_2, hcz9_3, hcz9_4, hcz9_5, hcz9_6, hcz9_7⟩ := bc8 BK344.out
  go_wp2_with (first | ((with_reducible refine gate_callee (f := 50) rfl ?_); refine goesL_ (some 14) rfl rfl Try.func50 (by kernel_rfl) rfl #[.slice A0_5 l0_5.length c0_5, .int .i64 t345] rfl mA ?_; (with_reducible refine (laws_heldAttrS.calls k _ _ l0_5 t345 t346 _ ?side1 ?side2 A8.out).mono ?_); (case side1 => repeat (first | exact (Kd.C_below HR0_5.out HB.out) | (with_reducible refine Kd.C_alloc ?_ _) | (with_reducible refine Kd.C_drewN ?_ _) | (with_reducible refine Kd.C_drew ?_))); (case side2 => exact HC0_5.out); rintro e w10 ⟨rfl, hb⟩; refine ⟨_, rfl, ?_⟩; replace BK344 := Aside0.mk (blk_below (g := gb344) (by (with_reducible repeat (first | refine bN ?_ _|refine bD ?_|refine bA ?_ _)); exact BK344.out) hb); replace HB := Aside0.mk (below_step hB hb); (try clear hb); (try clear hb2); (try clear hk); (try clear hi); refine halt_ ?_; intro q_ hq_))
  obtain ⟨rfl⟩ := hq_
  by_cases c11 : t346 < 0
  ·rw [if_pos c11] at H
   have c11b0 : decide (t346 < 0) = true := decide_eq_true c11
   clear c11
   obtain rfl := Option.some.inj H
   go_wp2
   go_ret
   exact ⟨rE, hB⟩
  ·rw [if_neg c11] at H
   have c11b0 : decide (t346 < 0) = false := decide_eq_false c11
   clear c11
   replace H := Option.bind_eq_some_iff.mp H
   obtain ⟨t347, A120, H⟩ := H
   try dsimp only at H
   have A12 := Aside0.mk A120
   clear A120
   obtain ⟨hcz13_0, hcz13_1, hcz13_2, hcz13_3, hcz13_4, hcz13_5, hcz13_6, hcz13_7⟩ := bc8 BK344.out
   go_wp2_with (first | ((with_reducible refine gate_callee (f := 23) rfl ?_); refine goesL_ (some 20) rfl rfl Try.func23 (by kernel_rfl) rfl #[.slice A0_6 l0_6.length c0_6, .int .i64 t346] rfl mA ?_; (with_reducible refine (laws_heldNodeS.calls k _ _ l0_6 t346 t347 _ ?side1 ?side2 A12.out).mono ?_); (case side1 => repeat (first | exact (Kd.C_below HR0_6.out HB.out) | (with_reducible refine Kd.C_alloc ?_ _) | (with_reducible refine Kd.C_drewN ?_ _) | (with_reducible refine Kd.C_drew ?_))); (case side2 => exact HC0_6.out); rintro e w14 ⟨rfl, hb⟩; refine ⟨_, rfl, ?_⟩; replace BK344 := Aside0.mk (blk_below (g := gb344) (by (with_reducible repeat (first | refine bN ?_ _|refine bD ?_|refine bA ?_ _)); exact BK344.out) hb); replace HB := Aside0.mk (below_step hB hb); (try clear hb); (try clear hb2); (try clear hk); (try clear hi); refine halt_ ?_; intro q_ hq_))
   obtain ⟨rfl⟩ := hq_
   by_cases c15 : t347 < 0
   ·rw [if_pos c15] at H
    have c15b0 : decide (t347 < 0) = true := decide_eq_true c15
    clear c15
    obtain rfl := Option.some.inj H
    go_wp2
    go_ret
    exact ⟨rE, hB⟩
   ·rw [if_neg c15] at H
    have c15b0 : decide (t347 < 0) = false := decide_eq_false c15
    clear c15
    obtain rfl := Option.some.inj H
    go_wp2
    go_ret
    exact ⟨rE, hB⟩

end Go.Proofs.Ytdbinpeglamnnaa.PA
