-- Written by the session's program hprint.py, over the kit's print program. Lean checks it.
import Derived.Laws.Cover1
import Derived.Test.YtalionlkjdgciaaGreatDoorPAx0
import Derived.Test.YtalionlkjdgciaaGreatDoorPAx5
namespace Go.Proofs.YtalionlkjdgciaaGreatDoor.PA
open Go.RowKit Go.Proofs.YtalionlkjdgciaaGreatDoorW.PrintWords Go.Proofs.YtalionlkjdgciaaGreatDoorW.PrintLast Go.Proofs.YtalionlkjdgciaaGreatDoorW.PrintMore
attribute [local go_sem] max2_int min2_int max_two min_two max_three min_three max_four min_four   -- for this text's walks alone
set_option linter.unusedVariables false
set_option linter.unusedSimpArgs false
set_option maxHeartbeats 8000000
set_option maxRecDepth 100000

/-! ### spec_DeclsOk: function 121 -/
def spec_DeclsOk.l0 : Nat → List (S73) → Int → Option (Bool)
 | 0, _, _ => none
 | k + 1, x0, x3 => if x3 < (x0.length : Int) then (if 0 ≤ x3 then ((spec_DeclOk.f k ((rd_T73 x0 x3).f0) ((rd_T73 x0 x3).f1)).bind fun t225 => (if t225 = true then (if x3 > 0 then (if 0 ≤ (wrap64 (x3 - 1)) then (if (wrap64 (x3 - 1)) < (x0.length : Int) then (if ((Op.bytesLess (((rd_T73 x0 (wrap64 (x3 - 1))).f0).toList) (((rd_T73 x0 x3).f0).toList)) = true) then (spec_DeclsOk.l0 k x0 (wrap64 (x3 + 1))) else (some false)) else (none)) else (none)) else (spec_DeclsOk.l0 k x0 (wrap64 (x3 + 1)))) else (some false))) else (none)) else (some (decide ((x0.length : Int) ≤ 4)))
def spec_DeclsOk.f (k : Nat) (l0 : List (S73)) : Option (Bool) := spec_DeclsOk.l0 k l0 0
def spec_DeclsOk.T4 : Bool × List (List Nat × List Nat) := (true, [([], []), ([], []), ([0, 1], [0, 1]), ([2], [2]), ([3], [3]), ([4], [4]), ([5, 4], [5]), ([6], [6]), ([7, 6], [6, 7]), ([8, 6, 6], [6, 8]), ([9], [9]), ([9], [9]), ([11, 9], [9, 11]), ([10, 12, 9], [9, 10, 12]), ([13, 9], [9, 13]), ([14, 9], [9, 14]), ([9], [9]), ([9], [9]), ([16, 17, 9], [9, 16, 17]), ([18, 9], [9, 18]), ([19, 9], [9, 19]), ([15, 20, 9], [9, 15, 20]), ([9, 21, 6], [6, 9, 21]), ([6, 22], [6, 22])])
def spec_DeclsOk.B4 : List Nat := [0, 0, 3, 7, 15, 31, 63, 127, 255, 511, 1023, 1023, 3071, 8191, 16383, 32767, 1023, 1023, 197631, 459775, 984063, 2097151, 4194303, 8388607]
theorem spec_DeclsOk.tab4 : rtab .any (opsOf Tryz.f121 4) = spec_DeclsOk.T4 := by kernel_rfl
theorem spec_DeclsOk.bits4 : waitsOk spec_DeclsOk.T4.2 spec_DeclsOk.B4 = true := by kernel_rfl
theorem spec_DeclsOk.calls (k : Nat) (A0 : Option Addr) (c0 : Nat) (l0 : List (S73)) (r : Bool) (w : World) (hr0 : Kd.C k73 w A0 l0.length l0) (hc0 : l0.length ≤ c0) (h : spec_DeclsOk.f k l0 = some r) :
  Calls Tryz.prog 121 #[.slice A0 l0.length c0] w fun e w' => e = .returned (.bool r) ∧ Below w.heap.size w w' := by
 have hu73 := Tryz.underlying73
 have HR0 := Aside0.mk hr0
 have HC0 := Aside0.mk hc0
 clear hr0 hc0
 have HB := Aside0.mk (Below.refl w.heap.size w)
 have H : (spec_DeclsOk.l0 k l0 0) = some r := h
 clear h
 have H' := Aside0.mk H
 clear H
 go_enter Tryz.func121, Tryz.ntmps121
 go_wp2
 go_loopg [3] k (fun kq v3 w' => ∃ (x3_1 : Int), v3 = .int .i64 x3_1 ∧ Aside0 (spec_DeclsOk.l0 kq l0 x3_1 = some r) ∧ Aside0 (kq ≤ k) ∧ Aside0 (Below w.heap.size w w'))
 case atStart => exact ⟨(0), rG, H', ⟨Nat.le_refl _⟩, ⟨hB⟩⟩
 case round =>
  clear H'
  obtain ⟨x3_1, rfl, HA, HK1, HB⟩ := hrel
  cases gk with
  | zero => exact absurd HA.out (by simp [spec_DeclsOk.l0])
  | succ k1 =>
   have H := HA.out
   clear HA
   simp only [spec_DeclsOk.l0] at H
   by_cases c2 : x3_1 < (l0.length : Int)
   ·rw [if_pos c2] at H
    have c2b0 : decide (x3_1 < (l0.length : Int)) = true := decide_eq_true c2
    clear c2
    obtain ⟨c3, H⟩ := if_som H
    have c3b0 : decide (0 ≤ x3_1) = true := decide_eq_true c3
    clear c3
    replace H := Option.bind_eq_some_iff.mp H
    obtain ⟨t225, A40, H⟩ := H
    try dsimp only at H
    have A4 := Aside0.mk A40
    clear A40
    by_cases c5 : t225 = true
    ·subst c5
     rw [if_pos rfl] at H
     by_cases c6 : x3_1 > 0
     ·rw [if_pos c6] at H
      have c6b0 : decide (0 < x3_1) = true := decide_eq_true c6
      clear c6
      obtain ⟨ji7, hji7⟩ : ∃ j_ : Int, (wrap64 (x3_1 - 1)) = j_ := ⟨_, rfl⟩
      replace H : (if 0 ≤ (ji7) then (if (ji7) < (l0.length : Int) then (if ((Op.bytesLess (((rd_T73 l0 (ji7)).f0).toList) (((rd_T73 l0 x3_1).f0).toList)) = true) then (spec_DeclsOk.l0 k1 l0 (wrap64 (x3_1 + 1))) else (some false)) else (none)) else (none)) = some r := by first | (rw [hji7] at H; exact H) | (simp only [hji7] at H ⊢; exact H)
      (try rw [hji7] at A4)
      have hji7w : (IntKind.i64.wrap (x3_1 - 1)) = ji7 := (i64_w _).trans hji7
      obtain ⟨c8, H⟩ := if_som H
      have c8b0 : decide (0 ≤ (ji7)) = true := decide_eq_true c8
      clear c8
      obtain ⟨c9, H⟩ := if_som H
      have c9b0 : decide ((ji7) < (l0.length : Int)) = true := decide_eq_true c9
      clear c9
      try go_wp2
      replace HB := Aside0.mk (below_drew1 HB.out)
      have p224 : 0 ≤ (x3_1 : Int) := odt
      have q224 : x3_1 < (l0.length : Int) := odt
      obtain ⟨ad224, e224, hx224_0, hx224_1⟩ := at_T73 HR0.out x3_1 p224 q224
      have hw224_1 := hx224_1
      have hw224_0 := hx224_0
      cases e224
      replace hx224_0 := pw_cell_below HB.out hx224_0
      replace hx224_1 := pw_cell_below HB.out hx224_1
      replace p224 := eq_true p224
      replace q224 := eq_true q224
      have p226 : 0 ≤ ((ji7) : Int) := odt
      have q226 : (ji7) < (l0.length : Int) := odt
      obtain ⟨ad226, e226, hx226_0, hx226_1⟩ := at_T73 HR0.out (ji7) p226 q226
      have hw226_1 := hx226_1
      have hw226_0 := hx226_0
      obtain rfl : ad224 = ad226 := (by injection e226)
      replace hx226_0 := pw_cell_below HB.out hx226_0
      replace hx226_1 := pw_cell_below HB.out hx226_1
      replace p226 := eq_true p226
      replace q226 := eq_true q226
      have p227 : 0 ≤ (x3_1 : Int) := odt
      have q227 : x3_1 < (l0.length : Int) := odt
      obtain ⟨ad227, e227, hx227_0, hx227_1⟩ := at_T73 HR0.out x3_1 p227 q227
      have hw227_1 := hx227_1
      have hw227_0 := hx227_0
      obtain rfl : ad224 = ad227 := (by injection e227)
      replace hx227_0 := pw_cell_below HB.out hx227_0
      replace hx227_1 := pw_cell_below HB.out hx227_1
      replace p227 := eq_true p227
      replace q227 := eq_true q227
      refine start_ (n := 24) (S := fun w' => w'.cell? (ad224.add ((x3_1).toNat * 2)) = some (.string ((rd_T73 l0 x3_1).f0)) ∧ w'.cell? ⟨(ad224.add ((x3_1).toNat * 2)).block, (ad224.add ((x3_1).toNat * 2)).off + 1, none⟩ = some (.string ((rd_T73 l0 x3_1).f1)) ∧ w'.cell? (ad224.add (((ji7)).toNat * 2)) = some (.string ((rd_T73 l0 (ji7)).f0)) ∧ w'.cell? ⟨(ad224.add (((ji7)).toNat * 2)).block, (ad224.add (((ji7)).toNat * 2)).off + 1, none⟩ = some (.string ((rd_T73 l0 (ji7)).f1)) ∧ w'.cell? (ad224.add ((x3_1).toNat * 2)) = some (.string ((rd_T73 l0 x3_1).f0)) ∧ w'.cell? ⟨(ad224.add ((x3_1).toNat * 2)).block, (ad224.add ((x3_1).toNat * 2)).off + 1, none⟩ = some (.string ((rd_T73 l0 x3_1).f1))) (ds := []) #[false, false, false, false, false, false, false, false, false, false, false, false, false, false, false, false, false, false, false, false, false, false, false, false] (by kernel_rfl) rfl rfl ⟨(pw_cell_below HB.out hw224_0), (pw_cell_below HB.out hw224_1), (pw_cell_below HB.out hw226_0), (pw_cell_below HB.out hw226_1), (pw_cell_below HB.out hw227_0), (pw_cell_below HB.out hw227_1)⟩ (fun hHeld => ?_); refine with_tabW spec_DeclsOk.tab4 spec_DeclsOk.bits4 (fun HT_ HW_ => ?_)
      generalize wr.drew = w10 at HB hx224_0 hx224_1 hx226_0 hx226_1 hx227_0 hx227_1 hHeld ⊢
      refine pU 0 10 (tf 1 23) ?_
      refine pU 1 11 (tf 2 22) ?_
      refine pU 2 12 (tf 3 21) ?_
      refine take_ (i := 3) (N := some 13) (v := ?_) (a' := ?_) (tf 4 20) rfl rfl (take_ofW HT_.out HW_.out (by kernel_rfl)) (fun _ _ _ h => h) (Or.inl ⟨by rfl, ?_⟩) hHeld ?_ ?_
      rotate_left
      ·rintro w' ⟨s0, s1, s2, s3, s4, s5⟩
       go_simp
       with_reducible rfl
      rotate_left
      ·simp only [Act.put, sT, sZ, sS, i64_w, i32_w]
       rfl
      refine one_ (i := 4) (N := some 14) (tf 5 19) rfl rfl (one_of HT_.out (by kernel_rfl)) (by decide) (fun K hK => ?_)
      refine goes_ Tryz.func151 (by kernel_rfl) rfl #[.agg #[.string ((rd_T73 l0 x3_1).f0), .string ((rd_T73 l0 x3_1).f1)]] (by rfl) rfl rfl mA ?_
      with_reducible refine (spec_DeclOk.calls k1 ((rd_T73 l0 x3_1).f0) ((rd_T73 l0 x3_1).f1) true _ A4.out).mono ?_
      rintro e w11 ⟨rfl, hb⟩
      refine ⟨_, rfl, ?_⟩
      replace HB := Aside0.mk (below_step hB hb)
      (try clear hb)
      (try clear hb2)
      (try clear hk)
      (try clear hi)
      refine hK.out _ _ ⟨(pw_cell_below HB.out hw224_0), (pw_cell_below HB.out hw224_1), (pw_cell_below HB.out hw226_0), (pw_cell_below HB.out hw226_1), (pw_cell_below HB.out hw227_0), (pw_cell_below HB.out hw227_1)⟩ (fun hHeld => ?_)
      clear hK K
      refine norm_ (a' := ?_) ?_ ?_
      rotate_left
      ·show Act.put _ (some 14) _ = _
       simp only [Act.put, sT, sZ, sS, i64_w, i32_w]
       rfl
      refine pU 5 15 (tf 6 18) ?_
      refine pU 6 16 (tf 7 17) ?_
      refine pU 7 17 (tf 8 16) ?_
      refine pU 8 18 (tf 9 15) ?_
      refine pU 9 19 (tf 10 14) ?_
      refine pU 10 20 (tf 11 13) ?_
      refine pU 11 21 (tf 12 12) ?_
      refine pU 12 22 (tf 13 11) ?_
      refine pU 13 23 (tf 14 10) ?_
      refine pU 14 24 (tf 15 9) ?_
      refine pU 16 26 #[true, true, true, true, true, true, true, true, true, true, true, true, true, true, true, false, true, false, false, false, false, false, false, false] ?_
      refine pU 17 27 #[true, true, true, true, true, true, true, true, true, true, true, true, true, true, true, false, true, true, false, false, false, false, false, false] ?_
      refine pU 18 28 #[true, true, true, true, true, true, true, true, true, true, true, true, true, true, true, false, true, true, true, false, false, false, false, false] ?_
      refine pU 19 29 #[true, true, true, true, true, true, true, true, true, true, true, true, true, true, true, false, true, true, true, true, false, false, false, false] ?_
      refine take_ (i := 15) (N := some 25) (v := ?_) (a' := ?_) (tf 20 4) rfl rfl (take_ofW HT_.out HW_.out (by kernel_rfl)) (fun _ _ _ h => h) (Or.inl ⟨by rfl, ?_⟩) hHeld ?_ ?_
      rotate_left
      ·rintro w' ⟨s0, s1, s2, s3, s4, s5⟩
       go_simp
       with_reducible rfl
      rotate_left
      ·simp only [Act.put, sT, sZ, sS, i64_w, i32_w]
       rfl
      refine take_ (i := 20) (N := some 30) (v := ?_) (a' := ?_) (tf 21 3) rfl rfl (take_ofW HT_.out HW_.out (by kernel_rfl)) (fun _ _ _ h => h) (Or.inl ⟨by rfl, ?_⟩) hHeld ?_ ?_
      rotate_left
      ·rintro w' ⟨s0, s1, s2, s3, s4, s5⟩
       go_simp
       with_reducible rfl
      rotate_left
      ·simp only [Act.put, sT, sZ, sS, i64_w, i32_w]
       rfl
      refine pU 21 31 (tf 22 2) ?_
      refine pU 22 32 (tf 23 1) ?_
      refine pU 23 33 (tf 24 0) ?_
      refine done_ (done_of HT_.out (by kernel_rfl)) ?_
      by_cases c12 : ((Op.bytesLess (((rd_T73 l0 (ji7)).f0).toList) (((rd_T73 l0 x3_1).f0).toList)) = true)
      ·rw [if_pos c12] at H
       have c12b0 : (Op.bytesLess (((rd_T73 l0 (ji7)).f0).toList) (((rd_T73 l0 x3_1).f0).toList)) = true := c12
       clear c12
       (first | rw [c12b0] | (simp only [i64_w, i32_w]; rw [c12b0]) | skip)
       have H' := Aside0.mk H
       clear H
       go_wp2
       go_roundg k1
       case measure => have := HK1.out; omega
       case rel => exact ⟨(wrap64 (x3_1 + 1)), rG, H', ⟨by have := HK1.out; omega⟩, ⟨hB⟩⟩
      ·rw [if_neg c12] at H
       have c12b0 : (Op.bytesLess (((rd_T73 l0 (ji7)).f0).toList) (((rd_T73 l0 x3_1).f0).toList)) = false := by simpa using c12
       clear c12
       (first | rw [c12b0] | (simp only [i64_w, i32_w]; rw [c12b0]) | skip)
       obtain rfl := Option.some.inj H
       go_wp2
       go_ret
       exact ⟨by first | rfl | (simp [errW_none, errW_some] <;> rfl) | (simp only [← hji7]; first | rfl | (simp [errW_none, errW_some] <;> rfl)) | (simp [*, errW_none, errW_some] <;> rfl), hB⟩
     ·rw [if_neg c6] at H
      have c6b0 : decide (0 < x3_1) = false := decide_eq_false c6
      clear c6
      have H' := Aside0.mk H
      clear H
      try go_wp2
      replace HB := Aside0.mk (below_drew1 HB.out)
      have p224 : 0 ≤ (x3_1 : Int) := odt
      have q224 : x3_1 < (l0.length : Int) := odt
      obtain ⟨ad224, e224, hx224_0, hx224_1⟩ := at_T73 HR0.out x3_1 p224 q224
      have hw224_1 := hx224_1
      have hw224_0 := hx224_0
      cases e224
      replace hx224_0 := pw_cell_below HB.out hx224_0
      replace hx224_1 := pw_cell_below HB.out hx224_1
      replace p224 := eq_true p224
      replace q224 := eq_true q224
      refine start_ (n := 24) (S := fun w' => w'.cell? (ad224.add ((x3_1).toNat * 2)) = some (.string ((rd_T73 l0 x3_1).f0)) ∧ w'.cell? ⟨(ad224.add ((x3_1).toNat * 2)).block, (ad224.add ((x3_1).toNat * 2)).off + 1, none⟩ = some (.string ((rd_T73 l0 x3_1).f1))) (ds := []) #[false, false, false, false, false, false, false, false, false, false, false, false, false, false, false, false, false, false, false, false, false, false, false, false] (by kernel_rfl) rfl rfl ⟨(pw_cell_below HB.out hw224_0), (pw_cell_below HB.out hw224_1)⟩ (fun hHeld => ?_); refine with_tabW spec_DeclsOk.tab4 spec_DeclsOk.bits4 (fun HT_ HW_ => ?_)
      generalize wr.drew = w13 at HB hx224_0 hx224_1 hHeld ⊢
      refine pU 0 10 (tf 1 23) ?_
      refine pU 1 11 (tf 2 22) ?_
      refine pU 2 12 (tf 3 21) ?_
      refine take_ (i := 3) (N := some 13) (v := ?_) (a' := ?_) (tf 4 20) rfl rfl (take_ofW HT_.out HW_.out (by kernel_rfl)) (fun _ _ _ h => h) (Or.inl ⟨by rfl, ?_⟩) hHeld ?_ ?_
      rotate_left
      ·rintro w' ⟨s0, s1⟩
       go_simp
       with_reducible rfl
      rotate_left
      ·simp only [Act.put, sT, sZ, sS, i64_w, i32_w]
       rfl
      refine one_ (i := 4) (N := some 14) (tf 5 19) rfl rfl (one_of HT_.out (by kernel_rfl)) (by decide) (fun K hK => ?_)
      refine goes_ Tryz.func151 (by kernel_rfl) rfl #[.agg #[.string ((rd_T73 l0 x3_1).f0), .string ((rd_T73 l0 x3_1).f1)]] (by rfl) rfl rfl mA ?_
      with_reducible refine (spec_DeclOk.calls k1 ((rd_T73 l0 x3_1).f0) ((rd_T73 l0 x3_1).f1) true _ A4.out).mono ?_
      rintro e w14 ⟨rfl, hb⟩
      refine ⟨_, rfl, ?_⟩
      replace HB := Aside0.mk (below_step hB hb)
      (try clear hb)
      (try clear hb2)
      (try clear hk)
      (try clear hi)
      refine hK.out _ _ ⟨(pw_cell_below HB.out hw224_0), (pw_cell_below HB.out hw224_1)⟩ (fun hHeld => ?_)
      clear hK K
      refine norm_ (a' := ?_) ?_ ?_
      rotate_left
      ·show Act.put _ (some 14) _ = _
       simp only [Act.put, sT, sZ, sS, i64_w, i32_w]
       rfl
      refine pU 5 15 (tf 6 18) ?_
      refine pU 6 16 (tf 7 17) ?_
      refine pU 7 17 (tf 8 16) ?_
      refine pU 8 18 (tf 9 15) ?_
      refine pU 9 19 (tf 10 14) ?_
      refine pV 10 20 (tf 11 13) ?_
       rfl
      refine pV 11 21 (tf 12 12) ?_
       rfl
      refine pV 12 22 (tf 13 11) ?_
       rfl
      refine pV 13 23 (tf 14 10) ?_
       rfl
      refine pV 14 24 (tf 15 9) ?_
       rfl
      refine pV 15 25 (tf 16 8) ?_
       rfl
      refine pV 16 26 (tf 17 7) ?_
       rfl
      refine pV 17 27 (tf 18 6) ?_
       rfl
      refine pV 18 28 (tf 19 5) ?_
       rfl
      refine pV 19 29 (tf 20 4) ?_
       rfl
      refine pV 20 30 (tf 21 3) ?_
       rfl
      refine pV 21 31 (tf 22 2) ?_
       rfl
      refine pU 22 32 (tf 23 1) ?_
      refine pU 23 33 (tf 24 0) ?_
      refine done_ (done_of HT_.out (by kernel_rfl)) ?_
      try go_wp2
      go_roundg k1
      case measure => have := HK1.out; omega
      case rel => exact ⟨(wrap64 (x3_1 + 1)), rG, H', ⟨by have := HK1.out; omega⟩, ⟨hB⟩⟩
    ·replace c5 := Bool.eq_false_iff.mpr c5
     subst c5
     rw [if_neg (show ¬ (false = true) by decide)] at H
     obtain rfl := Option.some.inj H
     try go_wp2
     replace HB := Aside0.mk (below_drew1 HB.out)
     have p224 : 0 ≤ (x3_1 : Int) := odt
     have q224 : x3_1 < (l0.length : Int) := odt
     obtain ⟨ad224, e224, hx224_0, hx224_1⟩ := at_T73 HR0.out x3_1 p224 q224
     have hw224_1 := hx224_1
     have hw224_0 := hx224_0
     cases e224
     replace hx224_0 := pw_cell_below HB.out hx224_0
     replace hx224_1 := pw_cell_below HB.out hx224_1
     replace p224 := eq_true p224
     replace q224 := eq_true q224
     refine start_ (n := 24) (S := fun w' => w'.cell? (ad224.add ((x3_1).toNat * 2)) = some (.string ((rd_T73 l0 x3_1).f0)) ∧ w'.cell? ⟨(ad224.add ((x3_1).toNat * 2)).block, (ad224.add ((x3_1).toNat * 2)).off + 1, none⟩ = some (.string ((rd_T73 l0 x3_1).f1))) (ds := []) #[false, false, false, false, false, false, false, false, false, false, false, false, false, false, false, false, false, false, false, false, false, false, false, false] (by kernel_rfl) rfl rfl ⟨(pw_cell_below HB.out hw224_0), (pw_cell_below HB.out hw224_1)⟩ (fun hHeld => ?_); refine with_tabW spec_DeclsOk.tab4 spec_DeclsOk.bits4 (fun HT_ HW_ => ?_)
     generalize wr.drew = w15 at HB hx224_0 hx224_1 hHeld ⊢
     refine pU 0 10 (tf 1 23) ?_
     refine pU 1 11 (tf 2 22) ?_
     refine pU 2 12 (tf 3 21) ?_
     refine take_ (i := 3) (N := some 13) (v := ?_) (a' := ?_) (tf 4 20) rfl rfl (take_ofW HT_.out HW_.out (by kernel_rfl)) (fun _ _ _ h => h) (Or.inl ⟨by rfl, ?_⟩) hHeld ?_ ?_
     rotate_left
     ·rintro w' ⟨s0, s1⟩
      go_simp
      with_reducible rfl
     rotate_left
     ·simp only [Act.put, sT, sZ, sS, i64_w, i32_w]
      rfl
     refine one_ (i := 4) (N := some 14) (tf 5 19) rfl rfl (one_of HT_.out (by kernel_rfl)) (by decide) (fun K hK => ?_)
     refine goes_ Tryz.func151 (by kernel_rfl) rfl #[.agg #[.string ((rd_T73 l0 x3_1).f0), .string ((rd_T73 l0 x3_1).f1)]] (by rfl) rfl rfl mA ?_
     with_reducible refine (spec_DeclOk.calls k1 ((rd_T73 l0 x3_1).f0) ((rd_T73 l0 x3_1).f1) false _ A4.out).mono ?_
     rintro e w16 ⟨rfl, hb⟩
     refine ⟨_, rfl, ?_⟩
     replace HB := Aside0.mk (below_step hB hb)
     (try clear hb)
     (try clear hb2)
     (try clear hk)
     (try clear hi)
     refine hK.out _ _ ⟨(pw_cell_below HB.out hw224_0), (pw_cell_below HB.out hw224_1)⟩ (fun hHeld => ?_)
     clear hK K
     refine norm_ (a' := ?_) ?_ ?_
     rotate_left
     ·show Act.put _ (some 14) _ = _
      simp only [Act.put, sT, sZ, sS, i64_w, i32_w]
      rfl
     refine pU 5 15 (tf 6 18) ?_
     refine pU 6 16 (tf 7 17) ?_
     refine pV 7 17 (tf 8 16) ?_
      rfl
     refine pV 8 18 (tf 9 15) ?_
      rfl
     refine pV 9 19 (tf 10 14) ?_
      rfl
     refine pV 10 20 (tf 11 13) ?_
      rfl
     refine pV 11 21 (tf 12 12) ?_
      rfl
     refine pV 12 22 (tf 13 11) ?_
      rfl
     refine pV 13 23 (tf 14 10) ?_
      rfl
     refine pV 14 24 (tf 15 9) ?_
      rfl
     refine pV 15 25 (tf 16 8) ?_
      rfl
     refine pV 16 26 (tf 17 7) ?_
      rfl
     refine pV 17 27 (tf 18 6) ?_
      rfl
     refine pV 18 28 (tf 19 5) ?_
      rfl
     refine pV 19 29 (tf 20 4) ?_
      rfl
     refine pV 20 30 (tf 21 3) ?_
      rfl
     refine pV 21 31 (tf 22 2) ?_
      rfl
     refine pV 22 32 (tf 23 1) ?_
      rfl
     refine pU 23 33 (tf 24 0) ?_
     refine done_ (done_of HT_.out (by kernel_rfl)) ?_
     try go_wp2
     go_ret
     exact ⟨rE, hB⟩
   ·rw [if_neg c2] at H
    have c2b0 : decide (x3_1 < (l0.length : Int)) = false := decide_eq_false c2
    clear c2
    obtain rfl := Option.some.inj H
    go_wp2
    go_ret
    exact ⟨rE, hB⟩

/-! ### spec_l5AttrOk: function 122 -/
def spec_l5AttrOk.j0 : Nat → Bool → ByteArray → ByteArray → ByteArray → ByteArray → Option (Bool)
 | 0, _, _, _, _, _ => none
 | k + 1, x31, x229000, x229001, x229002, x229003 => if x31 = true then (some false) else ((spec_TextOk.f k x229003).bind fun t231 => (if t231 = true then ((spec_TextOk.f k x229002).bind fun t232 => (if t232 = true then (some (decide ((x229002.size : Int) ≤ 40))) else (some false))) else (some false)))
def spec_l5AttrOk.f (k : Nat) (a0_0 : ByteArray) (a0_1 : ByteArray) (a0_2 : ByteArray) (a0_3 : ByteArray) : Option (Bool) := (spec_l5Pre.f k a0_0).bind fun t229 => (if t229 = true then (if ((a0_0.toList == ([] : List UInt8)) != (a0_2.toList == ([] : List UInt8))) = true then (spec_l5AttrOk.j0 k true a0_0 a0_1 a0_2 a0_3) else ((spec_PlainOk.f k a0_1).bind fun t230 => (if t230 = true then (if a0_0.toList = ([] : List UInt8) then (spec_l5AttrOk.j0 k (a0_1.toList == ([120, 109, 108, 110, 115] : List UInt8)) a0_0 a0_1 a0_2 a0_3) else (spec_l5AttrOk.j0 k false a0_0 a0_1 a0_2 a0_3)) else (spec_l5AttrOk.j0 k true a0_0 a0_1 a0_2 a0_3)))) else (spec_l5AttrOk.j0 k true a0_0 a0_1 a0_2 a0_3))
theorem spec_l5AttrOk.calls (k : Nat) (a0_0 : ByteArray) (a0_1 : ByteArray) (a0_2 : ByteArray) (a0_3 : ByteArray) (r : Bool) (w : World) (h : spec_l5AttrOk.f k a0_0 a0_1 a0_2 a0_3 = some r) :
  Calls Tryz.prog 122 #[.agg #[.string a0_0, .string a0_1, .string a0_2, .string a0_3]] w fun e w' => e = .returned (.bool r) ∧ Below w.heap.size w w' := by
 have hu68 := Tryz.underlying68
 have HB := Aside0.mk (Below.refl w.heap.size w)
 have H : ((spec_l5Pre.f k a0_0).bind fun t229 => (if t229 = true then (if ((a0_0.toList == ([] : List UInt8)) != (a0_2.toList == ([] : List UInt8))) = true then (spec_l5AttrOk.j0 k true a0_0 a0_1 a0_2 a0_3) else ((spec_PlainOk.f k a0_1).bind fun t230 => (if t230 = true then (if a0_0.toList = ([] : List UInt8) then (spec_l5AttrOk.j0 k (a0_1.toList == ([120, 109, 108, 110, 115] : List UInt8)) a0_0 a0_1 a0_2 a0_3) else (spec_l5AttrOk.j0 k false a0_0 a0_1 a0_2 a0_3)) else (spec_l5AttrOk.j0 k true a0_0 a0_1 a0_2 a0_3)))) else (spec_l5AttrOk.j0 k true a0_0 a0_1 a0_2 a0_3))) = some r := h
 clear h
 have HC2 := Aside0.mk H
 clear H
 go_enter Tryz.func122, Tryz.ntmps122
 go_upto_region 1 with (first | ((with_reducible refine gate_dst (N := 1) rfl ?_); (try (refine gate_guard (by rfl) ?_; dsimp only)); refine box_event ?hg (N := 1) ?hd (cs := #[.string a0_0, .string a0_1, .string a0_2, .string a0_3]) (t := 68) ?hr ?_; (case hd => rfl); (case hg => rfl); (case hr => first | (go_simp; done) | (go_simp; rfl)); intro gb228 hg w3 hbox hb; have BK228 := Aside0.mk (hbox); have GW228 := Aside0.mk ((by rw [hg]; exact (below_size hB) : w.heap.size ≤ gb228)); have GE228 := Aside0.mk ((by rw [hg]; exact (below_size hB) : w.heap.size ≤ gb228)); replace HB := Aside0.mk (below_step hB hb); clear hb hbox hg))
 (try simp only [Act.put, sT, sZ, sS])
 go_cut [31] (fun v31 wc => ∃ (kq : Nat) (x31_1 : Bool), v31 = .bool x31_1 ∧ Aside0 (spec_l5AttrOk.j0 kq x31_1 a0_0 a0_1 a0_2 a0_3 = some r) ∧ Aside0 (kq ≤ k) ∧ Aside0 (wc.heap[gb228]? = some (.cells #[.string a0_0, .string a0_1, .string a0_2, .string a0_3] 68 (0, 0))) ∧ Aside0 (Below w.heap.size w wc))
 case first =>
  have H := HC2.out
  clear HC2
  replace H := Option.bind_eq_some_iff.mp H
  obtain ⟨t229, A40, H⟩ := H
  try dsimp only at H
  have A4 := Aside0.mk A40
  clear A40
  obtain ⟨hcz5_0, hcz5_1, hcz5_2, hcz5_3⟩ := bc4 BK228.out
  go_wp2_with (first | ((with_reducible refine gate_callee (f := 118) rfl ?_); refine goesL_ (some 5) rfl rfl Tryz.func118 (by kernel_rfl) rfl #[.string a0_0] rfl mA ?_; (with_reducible refine (spec_l5Pre.calls k a0_0 t229 _ A4.out).mono ?_); rintro e w6 ⟨rfl, hb⟩; refine ⟨_, rfl, ?_⟩; replace BK228 := Aside0.mk (blk_below (g := gb228) (by (with_reducible repeat (first | refine bN ?_ _|refine bD ?_|refine bA ?_ _)); exact BK228.out) hb); replace HB := Aside0.mk (below_step hB hb); (try clear hb); (try clear hb2); (try clear hk); (try clear hi); refine halt_ ?_; intro q_ hq_))
  obtain ⟨rfl⟩ := hq_
  by_cases c7 : t229 = true
  ·subst c7
   rw [if_pos rfl] at H
   by_cases c8 : ((a0_0.toList == ([] : List UInt8)) != (a0_2.toList == ([] : List UInt8))) = true
   ·rw [if_pos c8] at H
    have c8b0 : ((a0_0.toList == ([] : List UInt8)) != (a0_2.toList == ([] : List UInt8))) = true := c8
    have c8e : (a0_0.toList.isEmpty == a0_2.toList.isEmpty) = false := by have z_ := c8b0; revert z_; cases a0_0.toList <;> cases a0_2.toList <;> simp
    have c8f : ¬ (a0_0.toList.isEmpty = a0_2.toList.isEmpty) := by simpa using c8e
    (try (have c8b1 : decide ((a0_0.toList == ([] : List UInt8)) = (a0_2.toList == ([] : List UInt8))) = false := by simpa using c8))
    (try (have c8b2 : ((a0_0.toList == ([] : List UInt8)) == (a0_2.toList == ([] : List UInt8))) = false := by simpa using c8))
    (try (have c8b3 : ¬ ((a0_0.toList == ([] : List UInt8)) = (a0_2.toList == ([] : List UInt8))) := by simpa using c8))
    clear c8
    (first | rw [c8b0] | (simp only [i64_w, i32_w]; rw [c8b0]) | skip)
    have H' := Aside0.mk H
    clear H
    obtain ⟨hcz9_0, hcz9_1, hcz9_2, hcz9_3⟩ := bc4 BK228.out
    go_wp2
    go_meet
    case rel => exact ⟨_, (true), rG, H', ⟨by first | omega | exact Nat.le_refl _⟩, ⟨by (with_reducible repeat (first | refine bN ?_ _|refine bD ?_|refine bA ?_ _)); exact BK228.out⟩, ⟨hB⟩⟩
   ·rw [if_neg c8] at H
    have c8b0 : ((a0_0.toList == ([] : List UInt8)) != (a0_2.toList == ([] : List UInt8))) = false := by simpa using c8
    have c8e : (a0_0.toList.isEmpty == a0_2.toList.isEmpty) = true := by have z_ := c8b0; revert z_; cases a0_0.toList <;> cases a0_2.toList <;> simp
    have c8f : (a0_0.toList.isEmpty = a0_2.toList.isEmpty) := by simpa using c8e
    (try (have c8b1 : decide ((a0_0.toList == ([] : List UInt8)) = (a0_2.toList == ([] : List UInt8))) = true := by simpa using c8))
    (try (have c8b2 : ((a0_0.toList == ([] : List UInt8)) == (a0_2.toList == ([] : List UInt8))) = true := by simpa using c8))
    clear c8
    (first | rw [c8b0] | (simp only [i64_w, i32_w]; rw [c8b0]) | skip)
    replace H := Option.bind_eq_some_iff.mp H
    obtain ⟨t230, A100, H⟩ := H
    try dsimp only at H
    have A10 := Aside0.mk A100
    clear A100
    obtain ⟨hcz11_0, hcz11_1, hcz11_2, hcz11_3⟩ := bc4 BK228.out
    go_wp2_with (first | (go_at_call 119; (with_reducible refine (spec_PlainOk.calls k a0_1 t230 _ A10.out).mono ?_); rintro e w12 ⟨rfl, hb⟩; replace BK228 := Aside0.mk (blk_below (g := gb228) (by (with_reducible repeat (first | refine bN ?_ _|refine bD ?_|refine bA ?_ _)); exact BK228.out) hb); replace HB := Aside0.mk (below_step hB hb); (try clear hb); (try clear hb2); (try clear hk); (try clear hi); refine halt_ ?_; intro q_ hq_))
    obtain ⟨rfl⟩ := hq_
    by_cases c13 : t230 = true
    ·subst c13
     rw [if_pos rfl] at H
     by_cases c14 : a0_0.toList = ([] : List UInt8)
     ·rw [if_pos c14] at H
      obtain ⟨c14b0, c14b1⟩ := eqT c14
      clear c14
      have H' := Aside0.mk H
      clear H
      obtain ⟨hcz15_0, hcz15_1, hcz15_2, hcz15_3⟩ := bc4 BK228.out
      go_wp2
      go_meet
      case rel => exact ⟨_, ((a0_1.toList == ([120, 109, 108, 110, 115] : List UInt8))), rG, H', ⟨by first | omega | exact Nat.le_refl _⟩, ⟨by (with_reducible repeat (first | refine bN ?_ _|refine bD ?_|refine bA ?_ _)); exact BK228.out⟩, ⟨hB⟩⟩
     ·rw [if_neg c14] at H
      obtain ⟨c14b0, c14b1⟩ := eqF c14
      have H' := Aside0.mk H
      clear H
      obtain ⟨hcz16_0, hcz16_1, hcz16_2, hcz16_3⟩ := bc4 BK228.out
      go_wp2
      go_meet
      case rel => exact ⟨_, (false), rG, H', ⟨by first | omega | exact Nat.le_refl _⟩, ⟨by (with_reducible repeat (first | refine bN ?_ _|refine bD ?_|refine bA ?_ _)); exact BK228.out⟩, ⟨hB⟩⟩
    ·replace c13 := Bool.eq_false_iff.mpr c13
     subst c13
     rw [if_neg (show ¬ (false = true) by decide)] at H
     have H' := Aside0.mk H
     clear H
     go_wp2
     go_meet
     case rel => exact ⟨_, (true), rG, H', ⟨by first | omega | exact Nat.le_refl _⟩, ⟨by (with_reducible repeat (first | refine bN ?_ _|refine bD ?_|refine bA ?_ _)); exact BK228.out⟩, ⟨hB⟩⟩
  ·replace c7 := Bool.eq_false_iff.mpr c7
   subst c7
   rw [if_neg (show ¬ (false = true) by decide)] at H
   have H' := Aside0.mk H
   clear H
   go_wp2
   go_meet
   case rel => exact ⟨_, (true), rG, H', ⟨by first | omega | exact Nat.le_refl _⟩, ⟨by (with_reducible repeat (first | refine bN ?_ _|refine bD ?_|refine bA ?_ _)); exact BK228.out⟩, ⟨hB⟩⟩
 case rest =>
  clear HC2
  obtain ⟨kq, x31_1, rfl, HA, HJ1, BK228, HB⟩ := hcut
  cases kq with
  | zero => exact absurd HA.out (by simp [spec_l5AttrOk.j0])
  | succ kj1 =>
   have H := HA.out
   clear HA
   simp only [spec_l5AttrOk.j0] at H
   by_cases c17 : x31_1 = true
   ·subst c17
    rw [if_pos rfl] at H
    obtain rfl := Option.some.inj H
    go_wp2
    go_ret
    exact ⟨rE, hB⟩
   ·replace c17 := Bool.eq_false_iff.mpr c17
    subst c17
    rw [if_neg (show ¬ (false = true) by decide)] at H
    replace H := Option.bind_eq_some_iff.mp H
    obtain ⟨t231, A180, H⟩ := H
    try dsimp only at H
    have A18 := Aside0.mk A180
    clear A180
    obtain ⟨hcz19_0, hcz19_1, hcz19_2, hcz19_3⟩ := bc4 BK228.out
    go_wp2_with (first | ((with_reducible refine gate_callee (f := 120) rfl ?_); refine goesL_ (some 34) rfl rfl Tryz.func120 (by kernel_rfl) rfl #[.string a0_3] rfl mA ?_; (with_reducible refine (spec_TextOk.calls kj1 a0_3 t231 _ A18.out).mono ?_); rintro e w' ⟨rfl, ⟨nd, rfl⟩⟩; refine ⟨_, rfl, ?_⟩; refine halt_ ?_; intro q_ hq_))
    obtain ⟨rfl⟩ := hq_
    by_cases c20 : t231 = true
    ·subst c20
     rw [if_pos rfl] at H
     replace H := Option.bind_eq_some_iff.mp H
     obtain ⟨t232, A210, H⟩ := H
     try dsimp only at H
     have A21 := Aside0.mk A210
     clear A210
     obtain ⟨hcz22_0, hcz22_1, hcz22_2, hcz22_3⟩ := bc4 BK228.out
     go_wp2_with (first | (go_at_call 120; (with_reducible refine (spec_TextOk.calls kj1 a0_2 t232 _ A21.out).mono ?_); rintro e w' ⟨rfl, ⟨nd, rfl⟩⟩; refine halt_ ?_; intro q_ hq_))
     obtain ⟨rfl⟩ := hq_
     by_cases c23 : t232 = true
     ·subst c23
      rw [if_pos rfl] at H
      obtain rfl := Option.some.inj H
      obtain ⟨hcz24_0, hcz24_1, hcz24_2, hcz24_3⟩ := bc4 BK228.out
      go_wp2
      go_ret
      exact ⟨rE, hB⟩
     ·replace c23 := Bool.eq_false_iff.mpr c23
      subst c23
      rw [if_neg (show ¬ (false = true) by decide)] at H
      obtain rfl := Option.some.inj H
      go_wp2
      go_ret
      exact ⟨rE, hB⟩
    ·replace c20 := Bool.eq_false_iff.mpr c20
     subst c20
     rw [if_neg (show ¬ (false = true) by decide)] at H
     obtain rfl := Option.some.inj H
     go_wp2
     go_ret
     exact ⟨rE, hB⟩

/-! ### spec_l5Bare: function 123 -/
def spec_l5Bare.f (a0_0 : Int) (a0_1 : ByteArray) (a0_2 : ByteArray) (a0_3 : ByteArray) (l0_4 : List (S73)) (l0_5 : List (S68)) (l0_6 : List (S28)) (a0_7 : ByteArray) : Option (Bool) := if a0_1.toList = ([] : List UInt8) then (if a0_3.toList = ([] : List UInt8) then (if (l0_4.length : Int) = 0 then (if (l0_5.length : Int) = 0 then (some ((l0_6.length : Int) == 0)) else (some false)) else (some false)) else (some false)) else (some false)
theorem spec_l5Bare.calls (a0_0 : Int) (a0_1 : ByteArray) (a0_2 : ByteArray) (a0_3 : ByteArray) (A0_4 : Option Addr) (c0_4 : Nat) (l0_4 : List (S73)) (A0_5 : Option Addr) (c0_5 : Nat) (l0_5 : List (S68)) (A0_6 : Option Addr) (c0_6 : Nat) (l0_6 : List (S28)) (a0_7 : ByteArray) (r : Bool) (w : World) (hr0_4 : Kd.C k73 w A0_4 l0_4.length l0_4) (hc0_4 : l0_4.length ≤ c0_4) (hr0_5 : Kd.C k68 w A0_5 l0_5.length l0_5) (hc0_5 : l0_5.length ≤ c0_5) (hr0_6 : Kd.C k28 w A0_6 l0_6.length l0_6) (hc0_6 : l0_6.length ≤ c0_6) (h : spec_l5Bare.f a0_0 a0_1 a0_2 a0_3 l0_4 l0_5 l0_6 a0_7 = some r) :
  Calls Tryz.prog 123 #[.agg #[.int .i64 a0_0, .string a0_1, .string a0_2, .string a0_3, .slice A0_4 l0_4.length c0_4, .slice A0_5 l0_5.length c0_5, .slice A0_6 l0_6.length c0_6, .string a0_7]] w fun e w' => e = .returned (.bool r) ∧ Below w.heap.size w w' := by
 have hu28 := Tryz.underlying28
 have HR0_4 := Aside0.mk hr0_4
 have HC0_4 := Aside0.mk hc0_4
 clear hr0_4 hc0_4
 have HR0_5 := Aside0.mk hr0_5
 have HC0_5 := Aside0.mk hc0_5
 clear hr0_5 hc0_5
 have HR0_6 := Aside0.mk hr0_6
 have HC0_6 := Aside0.mk hc0_6
 clear hr0_6 hc0_6
 have HB := Aside0.mk (Below.refl w.heap.size w)
 have H : (if a0_1.toList = ([] : List UInt8) then (if a0_3.toList = ([] : List UInt8) then (if (l0_4.length : Int) = 0 then (if (l0_5.length : Int) = 0 then (some ((l0_6.length : Int) == 0)) else (some false)) else (some false)) else (some false)) else (some false)) = some r := h
 clear h
 go_enter Tryz.func123, Tryz.ntmps123
 go_wp2_with (first | ((with_reducible refine gate_dst (N := 1) rfl ?_); (try (refine gate_guard (by rfl) ?_; dsimp only)); refine box_event ?hg (N := 1) ?hd (cs := #[.int .i64 a0_0, .string a0_1, .string a0_2, .string a0_3, .slice A0_4 l0_4.length c0_4, .slice A0_5 l0_5.length c0_5, .slice A0_6 l0_6.length c0_6, .string a0_7]) (t := 28) ?hr ?_; (case hd => rfl); (case hg => rfl); (case hr => first | (go_simp; done) | (go_simp; rfl)); intro gb233 hg w2 hbox hb; have BK233 := Aside0.mk (hbox); have GW233 := Aside0.mk ((by rw [hg]; exact (below_size hB) : w.heap.size ≤ gb233)); have GE233 := Aside0.mk ((by rw [hg]; exact (below_size hB) : w.heap.size ≤ gb233)); replace HB := Aside0.mk (below_step hB hb); clear hb hbox hg; obtain ⟨hcz3_0, hcz3_1, hcz3_2, hcz3_3, hcz3_4, hcz3_5, hcz3_6, hcz3_7⟩ := bc8 BK233.out; refine halt_ ?_; intro q_ hq_))
 obtain ⟨rfl⟩ := hq_
 by_cases c4 : a0_1.toList = ([] : List UInt8)
 ·rw [if_pos c4] at H
  obtain ⟨c4b0, c4b1⟩ := eqT c4
  clear c4
  by_cases c5 : a0_3.toList = ([] : List UInt8)
  ·rw [if_pos c5] at H
   obtain ⟨c5b0, c5b1⟩ := eqT c5
   clear c5
   by_cases c6 : (l0_4.length : Int) = 0
   ·rw [if_pos c6] at H
    obtain ⟨c6b0, c6b1⟩ := eqT c6
    clear c6
    by_cases c7 : (l0_5.length : Int) = 0
    ·rw [if_pos c7] at H
     obtain ⟨c7b0, c7b1⟩ := eqT c7
     clear c7
     obtain rfl := Option.some.inj H
     obtain ⟨hcz8_0, hcz8_1, hcz8_2, hcz8_3, hcz8_4, hcz8_5, hcz8_6, hcz8_7⟩ := bc8 BK233.out
     go_wp2
     go_ret
     exact ⟨rE, hB⟩
    ·rw [if_neg c7] at H
     obtain ⟨c7b0, c7b1⟩ := eqF c7
     have c7b2 : ¬ (l0_5 = []) := fun h_ => c7 (by rw [h_]; rfl)
     obtain rfl := Option.some.inj H
     obtain ⟨hcz9_0, hcz9_1, hcz9_2, hcz9_3, hcz9_4, hcz9_5, hcz9_6, hcz9_7⟩ := bc8 BK233.out
     go_wp2
     go_ret
     exact ⟨rE, hB⟩
   ·rw [if_neg c6] at H
    obtain ⟨c6b0, c6b1⟩ := eqF c6
    have c6b2 : ¬ (l0_4 = []) := fun h_ => c6 (by rw [h_]; rfl)
    obtain rfl := Option.some.inj H
    obtain ⟨hcz10_0, hcz10_1, hcz10_2, hcz10_3, hcz10_4, hcz10_5, hcz10_6, hcz10_7⟩ := bc8 BK233.out
    go_wp2
    go_ret
    exact ⟨rE, hB⟩
  ·rw [if_neg c5] at H
   obtain ⟨c5b0, c5b1⟩ := eqF c5
   obtain rfl := Option.some.inj H
   obtain ⟨hcz11_0, hcz11_1, hcz11_2, hcz11_3, hcz11_4, hcz11_5, hcz11_6, hcz11_7⟩ := bc8 BK233.out
   go_wp2
   go_ret
   exact ⟨rE, hB⟩
 ·rw [if_neg c4] at H
  obtain ⟨c4b0, c4b1⟩ := eqF c4
  obtain rfl := Option.some.inj H
  go_wp2
  go_ret
  exact ⟨rE, hB⟩

/-! ### spec_l5Has: function 124 -/
def spec_l5Has.l0 : Nat → ByteArray → ByteArray → Int → Option (Bool)
 | 0, _, _, _ => none
 | k + 1, x0, x1, x5 => if (wrap64 (x5 + (x1.size : Int))) ≤ (x0.size : Int) then (if 0 ≤ x5 then (if x5 ≤ (wrap64 (x5 + (x1.size : Int))) then (if (x0.extract (x5 : Int).toNat ((wrap64 (x5 + (x1.size : Int))) : Int).toNat).toList = x1.toList then (some true) else (spec_l5Has.l0 k x0 x1 (wrap64 (x5 + 1)))) else (none)) else (none)) else (some false)
def spec_l5Has.f (k : Nat) (a0 : ByteArray) (a1 : ByteArray) : Option (Bool) := spec_l5Has.l0 k a0 a1 0
theorem spec_l5Has.calls (k : Nat) (a0 : ByteArray) (a1 : ByteArray) (r : Bool) (w : World) (h : spec_l5Has.f k a0 a1 = some r) :
  Calls Tryz.prog 124 #[.string a0, .string a1] w fun e w' => e = .returned (.bool r) ∧ Drawn0 w w' := by
 have H : (spec_l5Has.l0 k a0 a1 0) = some r := h
 clear h
 have H' := Aside0.mk H
 clear H
 go_enter Tryz.func124, Tryz.ntmps124
 go_wp2
 go_loopg [5] k (fun kq v5 w' => ∃ (x5_1 : Int), v5 = .int .i64 x5_1 ∧ Aside0 (spec_l5Has.l0 kq a0 a1 x5_1 = some r) ∧ Aside0 (kq ≤ k) ∧ Drawn0 w w')
 case atStart => exact ⟨(0), rG, H', ⟨Nat.le_refl _⟩, by repeat (first | exact Drawn0.refl _ | apply Drawn0.step)⟩
 case round =>
  clear H'
  obtain ⟨x5_1, rfl, HA, HK1, ⟨m1, rfl⟩⟩ := hrel
  cases gk with
  | zero => exact absurd HA.out (by simp [spec_l5Has.l0])
  | succ k1 =>
   have H := HA.out
   clear HA
   simp only [spec_l5Has.l0] at H
   by_cases c3 : (wrap64 (x5_1 + (a1.size : Int))) ≤ (a0.size : Int)
   ·rw [if_pos c3] at H
    have c3b0 : decide ((wrap64 (x5_1 + (a1.size : Int))) ≤ (a0.size : Int)) = true := decide_eq_true c3
    clear c3
    obtain ⟨c4, H⟩ := if_som H
    obtain ⟨c4b0, c4b1⟩ := fcT c4
    clear c4
    obtain ⟨c5, H⟩ := if_som H
    obtain ⟨c5b0, c5b1⟩ := fcT c5
    have c6b0 := eq_true (odt : (wrap64 (x5_1 + (a1.size : Int))) ≤ (a0.size : Int))
    by_cases c7 : (a0.extract (x5_1 : Int).toNat ((wrap64 (x5_1 + (a1.size : Int))) : Int).toNat).toList = a1.toList
    ·rw [if_pos c7] at H
     obtain ⟨c7b0, c7b1⟩ := eqT c7
     clear c7
     obtain rfl := Option.some.inj H
     go_wp2
     go_ret
     exact ⟨by first | rfl | (simp; done) | (simp [*]; done), by repeat (first | exact Drawn0.refl _ | apply Drawn0.step)⟩
    ·rw [if_neg c7] at H
     obtain ⟨c7b0, c7b1⟩ := eqF c7
     have H' := Aside0.mk H
     clear H
     go_wp2
     go_roundg k1
     case measure => have := HK1.out; omega
     case rel => exact ⟨(wrap64 (x5_1 + 1)), rG, H', ⟨by have := HK1.out; omega⟩, by repeat (first | exact Drawn0.refl _ | apply Drawn0.step)⟩
   ·rw [if_neg c3] at H
    have c3b0 : decide ((wrap64 (x5_1 + (a1.size : Int))) ≤ (a0.size : Int)) = false := decide_eq_false c3
    clear c3
    obtain rfl := Option.some.inj H
    go_wp2
    go_ret
    exact ⟨by first | rfl | (simp; done) | (simp [*]; done), by repeat (first | exact Drawn0.refl _ | apply Drawn0.step)⟩

end Go.Proofs.YtalionlkjdgciaaGreatDoor.PA
