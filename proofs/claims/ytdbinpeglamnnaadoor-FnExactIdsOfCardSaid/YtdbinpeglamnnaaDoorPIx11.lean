-- Written by the session's program hprint.py, over the kit's print program. Lean checks it.
import Derived.Test.YtdbinpeglamnnaaDoorPIx0
import Derived.Test.YtdbinpeglamnnaaDoorPIx1
import Derived.Test.YtdbinpeglamnnaaDoorPIx9
import Derived.Test.YtdbinpeglamnnaaDoorPIx10
namespace Go.Proofs.YtdbinpeglamnnaaDoor.PI
open Go.RowKit Go.Proofs.YtdbinpeglamnnaaDoorW.PrintWords Go.Proofs.YtdbinpeglamnnaaDoorW.PrintLast Go.Proofs.YtdbinpeglamnnaaDoorW.PrintMore
attribute [local go_sem] max2_int min2_int max_two min_two max_three min_three max_four min_four   -- for this text's walks alone
set_option linter.unusedVariables false
set_option linter.unusedSimpArgs false
set_option maxHeartbeats 8000000
set_option maxRecDepth 100000

/-! ### laws_markHead: function 14 -/
def laws_markHead.f (k : Nat) (a0_0 : ByteArray) (l0_1 : List (S92)) (l0_2 : List (S85)) (a1 : Int) : Option (Int × (List (S92)) × (List (S85))) := (laws_markEntS.f k l0_1 a1).bind fun bt380 => ((laws_markDefS.f k l0_2 bt380.1).bind fun bt382 => (some (bt382.1, bt380.2, bt382.2)))
theorem laws_markHead.calls (k : Nat) (a0_0 : ByteArray) (P0_1_ : Nat → Prop) (u9000_ : Value) (l0_1 : List (S92)) (P0_2_ : Nat → Prop) (u9001_ : Value) (l0_2 : List (S85)) (a1 : Int) (r1 : Int) (r2 : List (S92)) (r3 : List (S85)) (w0 w : World) (hB : Below w0.heap.size w0 w) (ho0_1 : Kd.R k92 92 w w0.heap.size P0_1_ u9000_ l0_1) (ho0_2 : Kd.R k85 85 w w0.heap.size P0_2_ u9001_ l0_2) (h : laws_markHead.f k a0_0 l0_1 l0_2 a1 = some (r1, r2, r3)) :
  Calls Tryd.prog 14 #[.agg #[.string a0_0, u9000_, u9001_], .int .i64 a1] w fun e w' => e = .returned (.int .i64 r1) ∧ Kd.R k92 92 w' w0.heap.size (fun k_ => ((P0_1_ k_ ∨ P0_2_ k_) ∨ w.heap.size ≤ k_)) u9000_ r2 ∧ Kd.R k85 85 w' w0.heap.size (fun k_ => ((P0_1_ k_ ∨ P0_2_ k_) ∨ w.heap.size ≤ k_)) u9001_ r3 ∧ Below w0.heap.size w0 w' ∧ Kept w w' (fun k_ => P0_1_ k_ ∨ P0_2_ k_) := by
 have hu43 := Tryd.underlying43
 have HO0_1 := Aside0.mk (show Kd.R k92 92 w w0.heap.size (fun k_ => ((P0_1_ k_ ∨ P0_2_ k_) ∨ w.heap.size ≤ k_)) u9000_ l0_1 from Kd.R_mono ho0_1 (fun k_ hk => (.inl (.inl hk))))
 have HO0_2 := Aside0.mk (show Kd.R k85 85 w w0.heap.size (fun k_ => ((P0_1_ k_ ∨ P0_2_ k_) ∨ w.heap.size ≤ k_)) u9001_ l0_2 from Kd.R_mono ho0_2 (fun k_ hk => (.inl (.inr hk))))
 have HK := Aside0.mk (Kept.refl w (fun k_ => P0_1_ k_ ∨ P0_2_ k_))
 have HW0 := Aside0.mk hB.size
 have HB := Aside0.mk hB
 clear hB
 have H : ((laws_markEntS.f k l0_1 a1).bind fun bt380 => ((laws_markDefS.f k l0_2 bt380.1).bind fun bt382 => (some (bt382.1, bt380.2, bt382.2)))) = some (r1, r2, r3) := h
 clear h
 replace H := Option.bind_eq_some_iff.mp H
 obtain ⟨⟨t380, t381⟩, A30, H⟩ := H
 try dsimp only at H
 have A3 := Aside0.mk A30
 clear A30
 replace H := Option.bind_eq_some_iff.mp H
 obtain ⟨⟨t382, t383⟩, A40, H⟩ := H
 try dsimp only at H
 have A4 := Aside0.mk A40
 clear A40
 simp only [Option.some.injEq, Prod.mk.injEq] at H
 obtain ⟨rfl, rfl, rfl⟩ := H
 obtain ⟨Ao5, co5, eo5⟩ := Kd.R_slice HO0_1.out
 subst eo5
 obtain ⟨Ao6, co6, eo6⟩ := Kd.R_slice HO0_2.out
 subst eo6
 go_enter Tryd.func14, Tryd.ntmps14
 go_wp2_with (first | ((with_reducible refine gate_dst (N := 2) rfl ?_); refine box_event ?hg (N := 2) ?hd (cs := #[.string a0_0, .slice Ao5 l0_1.length co5, .slice Ao6 l0_2.length co6]) (t := 43) ?hr ?_; (case hd => rfl); (case hg => rfl); (case hr => first | (go_simp; done) | (go_simp; rfl)); intro gb379 hg w7 hbox hb; replace HO0_1 := Aside0.mk (Kd.R_below (by (with_reducible repeat (first|apply rA|apply rN|apply rD)); exact HO0_1.out) hb); replace HO0_2 := Aside0.mk (Kd.R_below (by (with_reducible repeat (first|apply rA|apply rN|apply rD)); exact HO0_2.out) hb); have BK379 := Aside0.mk (hbox); have GW379 := Aside0.mk ((by rw [hg]; exact (by first | exact HK.out.1 | exact (show Kept w _ (fun k_ => P0_1_ k_ ∨ P0_2_ k_) from by repeat (first|(with_reducible first|exact HK.out | apply Kept.alloc | apply Kept.drewN | apply Kept.drew) | exact HK.out)).1) : w.heap.size ≤ gb379)); replace HK := Aside0.mk (Kept.below (S := (fun k_ => P0_1_ k_ ∨ P0_2_ k_)) (by repeat (first|(with_reducible first|exact HK.out | apply Kept.alloc | apply Kept.drewN | apply Kept.drew) | exact HK.out)) hb); have GE379 := Aside0.mk ((by rw [hg]; exact (below_size hB) : w0.heap.size ≤ gb379)); replace HB := Aside0.mk (below_step hB hb); clear hb hbox hg; obtain ⟨hcz8_0, hcz8_1, hcz8_2⟩ := bc3 BK379.out) | ((with_reducible refine gate_callee (f := 36) rfl ?_); refine goesL_ (some 8) rfl rfl Tryd.func36 (by kernel_rfl) rfl #[.slice Ao5 l0_1.length co5, .int .i64 a1] rfl mA ?_; (with_reducible refine (laws_markEntS.calls k (fun k_ => some k_ = (.slice Ao5 l0_1.length co5 : Value).ownBlock) (.slice Ao5 l0_1.length co5) l0_1 a1 t380 t381 w0 _ ?side1 ?side2 A3.out).mono ?_); (case side1 => repeat (first|(with_reducible first|exact HB.out|apply zA|apply zN|apply zD | refine below_set ?_ GE379.out) | exact HB.out)); (case side2 => exact Kd.R_tight rfl HO0_1.out); rintro e w9 ⟨rfl, hy0, hb, hkp⟩; refine ⟨_, rfl, ?_⟩; replace HO0_2 := Aside0.mk (Kd.R_mono (ok' := fun k_ => ((P0_1_ k_ ∨ P0_2_ k_) ∨ w.heap.size ≤ k_)) (Kd.R_keptB ((Kd.R_apart' HO0_2.out (Kd.R_typed HO0_1.out) (by decide))) hkp (fun k_ hk_ hs_ => (hk_.2) hs_)) (fun k_ hk_ => hk_.1.1)); replace BK379 := Aside0.mk (blk_kept (by (with_reducible repeat (first | refine bN ?_ _|refine bD ?_|refine bA ?_ _)); exact BK379.out) hkp (fun hs_ => (fun e_ => (Kd.R_ne HO0_1.out BK379.out (by decide)) e_) hs_)); replace HK := Aside0.mk (Kept.then_ (S := (fun k_ => P0_1_ k_ ∨ P0_2_ k_)) (by repeat (first|(with_reducible first|exact HK.out | apply Kept.alloc | apply Kept.drewN | apply Kept.drew | refine Kept.setCell ?_ (.inr GW379.out) _) | exact HK.out)) hkp (fun k_ hs_ => (fun e_ => (HO0_1.out.1 k_ e_.symm)) hs_)); replace HO0_1 := Aside0.mk (Kd.R_reok rfl hy0 (fun k_ e_ => HO0_1.out.1 k_ e_)); replace HB := Aside0.mk (hb); (try clear hb); (try clear hkp); (try clear hy0); obtain ⟨hcz10_0, hcz10_1, hcz10_2⟩ := bc3 BK379.out) | ((with_reducible refine gate_callee (f := 37) rfl ?_); refine goesL_ (some 12) rfl rfl Tryd.func37 (by kernel_rfl) rfl #[.slice Ao6 l0_2.length co6, .int .i64 t380] rfl mA ?_; (with_reducible refine (laws_markDefS.calls k (fun k_ => some k_ = (.slice Ao6 l0_2.length co6 : Value).ownBlock) (.slice Ao6 l0_2.length co6) l0_2 t380 t382 t383 w0 _ ?side1 ?side2 A4.out).mono ?_); (case side1 => repeat (first|(with_reducible first|exact HB.out|apply zA|apply zN|apply zD | refine below_set ?_ GE379.out) | exact HB.out)); (case side2 => exact Kd.R_tight rfl HO0_2.out); rintro e w11 ⟨rfl, hy0, hb, hkp⟩; refine ⟨_, rfl, ?_⟩; replace HO0_1 := Aside0.mk (Kd.R_mono (ok' := fun k_ => ((P0_1_ k_ ∨ P0_2_ k_) ∨ w.heap.size ≤ k_)) (Kd.R_keptB ((Kd.R_apart' HO0_1.out (Kd.R_typed HO0_2.out) (by decide))) hkp (fun k_ hk_ hs_ => (hk_.2) hs_)) (fun k_ hk_ => hk_.1.1)); replace BK379 := Aside0.mk (blk_kept (by (with_reducible repeat (first | refine bN ?_ _|refine bD ?_|refine bA ?_ _)); exact BK379.out) hkp (fun hs_ => (fun e_ => (Kd.R_ne HO0_2.out BK379.out (by decide)) e_) hs_)); replace HK := Aside0.mk (Kept.then_ (S := (fun k_ => P0_1_ k_ ∨ P0_2_ k_)) (by repeat (first|(with_reducible first|exact HK.out | apply Kept.alloc | apply Kept.drewN | apply Kept.drew | refine Kept.setCell ?_ (.inr GW379.out) _) | exact HK.out)) hkp (fun k_ hs_ => (fun e_ => (HO0_2.out.1 k_ e_.symm)) hs_)); replace HO0_2 := Aside0.mk (Kd.R_reok rfl hy0 (fun k_ e_ => HO0_2.out.1 k_ e_)); replace HB := Aside0.mk (hb); (try clear hb); (try clear hkp); (try clear hy0)))
 go_ret
 exact ⟨rE, by (with_reducible repeat (first|apply rA|apply rN|apply rD)); exact HO0_1.out, by (with_reducible repeat (first|apply rA|apply rN|apply rD)); exact HO0_2.out, hB, by repeat (first|(with_reducible first|exact HK.out | apply Kept.alloc | apply Kept.drewN | apply Kept.drew | refine Kept.setCell ?_ (.inr GW379.out) _) | exact HK.out)⟩

/-! ### laws_heldAttrS: function 16 -/
def laws_heldAttrS.l0 : Nat → List (S64) → Int → Int → Option (Int)
 | 0, _, _, _ => none
 | k + 1, x0, x1, x5 => if x5 < (x0.length : Int) then (if 0 ≤ x5 then ((laws_markText.f k x1).bind fun t385 => (if ((rd_T64 x0 x5).f0).toList = t385.toList then ((laws_markText.f k (wrap64 (x1 + 1))).bind fun t387 => (if ((rd_T64 x0 x5).f1).toList = t387.toList then ((laws_markText.f k (wrap64 ((wrap64 (x1 + 1)) + 1))).bind fun t389 => (if ((rd_T64 x0 x5).f2).toList = t389.toList then ((laws_markText.f k (wrap64 ((wrap64 ((wrap64 (x1 + 1)) + 1)) + 1))).bind fun t391 => (if ((rd_T64 x0 x5).f3).toList = t391.toList then (laws_heldAttrS.l0 k x0 (wrap64 ((wrap64 ((wrap64 ((wrap64 (x1 + 1)) + 1)) + 1)) + 1)) (wrap64 (x5 + 1))) else (some (-1)))) else (some (-1)))) else (some (-1)))) else (some (-1)))) else (none)) else (some x1)
def laws_heldAttrS.f (k : Nat) (l0 : List (S64)) (a1 : Int) : Option (Int) := laws_heldAttrS.l0 k l0 a1 0
def laws_heldAttrS.T4 : Bool × List (List Nat × List Nat) := (true, [([], []), ([], []), ([0, 1], [0, 1]), ([2], [2]), ([3], [3]), ([], []), ([5], [5]), ([4, 6], [4, 6])])
def laws_heldAttrS.B4 : List Nat := [0, 0, 3, 7, 15, 0, 32, 127]
theorem laws_heldAttrS.tab4 : rtab .any (opsOf Tryd.f16 4) = laws_heldAttrS.T4 := by kernel_rfl
theorem laws_heldAttrS.bits4 : waitsOk laws_heldAttrS.T4.2 laws_heldAttrS.B4 = true := by kernel_rfl
def laws_heldAttrS.T7 : Bool × List (List Nat × List Nat) := (true, [([], []), ([], []), ([0, 1], [0, 1]), ([2], [2]), ([3], [3]), ([], []), ([5], [5]), ([4, 6], [4, 6])])
def laws_heldAttrS.B7 : List Nat := [0, 0, 3, 7, 15, 0, 32, 127]
theorem laws_heldAttrS.tab7 : rtab .any (opsOf Tryd.f16 7) = laws_heldAttrS.T7 := by kernel_rfl
theorem laws_heldAttrS.bits7 : waitsOk laws_heldAttrS.T7.2 laws_heldAttrS.B7 = true := by kernel_rfl
def laws_heldAttrS.T10 : Bool × List (List Nat × List Nat) := (true, [([], []), ([], []), ([0, 1], [0, 1]), ([2], [2]), ([3], [3]), ([], []), ([5], [5]), ([4, 6], [4, 6])])
def laws_heldAttrS.B10 : List Nat := [0, 0, 3, 7, 15, 0, 32, 127]
theorem laws_heldAttrS.tab10 : rtab .any (opsOf Tryd.f16 10) = laws_heldAttrS.T10 := by kernel_rfl
theorem laws_heldAttrS.bits10 : waitsOk laws_heldAttrS.T10.2 laws_heldAttrS.B10 = true := by kernel_rfl
def laws_heldAttrS.T13 : Bool × List (List Nat × List Nat) := (true, [([], []), ([], []), ([0, 1], [0, 1]), ([2], [2]), ([3], [3]), ([], []), ([5], [5]), ([4, 6], [4, 6])])
def laws_heldAttrS.B13 : List Nat := [0, 0, 3, 7, 15, 0, 32, 127]
theorem laws_heldAttrS.tab13 : rtab .any (opsOf Tryd.f16 13) = laws_heldAttrS.T13 := by kernel_rfl
theorem laws_heldAttrS.bits13 : waitsOk laws_heldAttrS.T13.2 laws_heldAttrS.B13 = true := by kernel_rfl
theorem laws_heldAttrS.calls (k : Nat) (A0 : Option Addr) (c0 : Nat) (l0 : List (S64)) (a1 : Int) (r : Int) (w : World) (hr0 : Kd.C k64 w A0 l0.length l0) (hc0 : l0.length ≤ c0) (h : laws_heldAttrS.f k l0 a1 = some r) :
  Calls Tryd.prog 16 #[.slice A0 l0.length c0, .int .i64 a1] w fun e w' => e = .returned (.int .i64 r) ∧ Below w.heap.size w w' := by
 have HR0 := Aside0.mk hr0
 have HC0 := Aside0.mk hc0
 clear hr0 hc0
 have HB := Aside0.mk (Below.refl w.heap.size w)
 have H : (laws_heldAttrS.l0 k l0 a1 0) = some r := h
 clear h
 have H' := Aside0.mk H
 clear H
 go_enter Tryd.func16, Tryd.ntmps16
 go_wp2
 go_loopg [1, 5] k (fun kq v1 v5 w' => ∃ (x1_1 : Int) (x5_1 : Int), v1 = .int .i64 x1_1 ∧ v5 = .int .i64 x5_1 ∧ Aside0 (laws_heldAttrS.l0 kq l0 x1_1 x5_1 = some r) ∧ Aside0 (kq ≤ k) ∧ Aside0 (Below w.heap.size w w'))
 case atStart => exact ⟨(a1), (0), rG, rG, H', ⟨Nat.le_refl _⟩, ⟨hB⟩⟩
 case round =>
  clear H'
  obtain ⟨x1_1, x5_1, rfl, rfl, HA, HK1, HB⟩ := hrel
  cases gk with
  | zero => exact absurd HA.out (by simp [laws_heldAttrS.l0])
  | succ k1 =>
   have H := HA.out
   clear HA
   simp only [laws_heldAttrS.l0] at H
   by_cases c3 : x5_1 < (l0.length : Int)
   ·rw [if_pos c3] at H
    have c3b0 : decide (x5_1 < (l0.length : Int)) = true := decide_eq_true c3
    clear c3
    obtain ⟨c4, H⟩ := if_som H
    have c4b0 : decide (0 ≤ x5_1) = true := decide_eq_true c4
    clear c4
    replace H := Option.bind_eq_some_iff.mp H
    obtain ⟨t385, A50, H⟩ := H
    try dsimp only at H
    have A5 := Aside0.mk A50
    clear A50
    try go_wp2
    replace HB := Aside0.mk (below_drew1 HB.out)
    have p384 : 0 ≤ (x5_1 : Int) := odt
    have q384 : x5_1 < (l0.length : Int) := odt
    obtain ⟨ad384, e384, hx384_0, hx384_1, hx384_2, hx384_3⟩ := at_T64 HR0.out x5_1 p384 q384
    have hw384_3 := hx384_3
    have hw384_2 := hx384_2
    have hw384_1 := hx384_1
    have hw384_0 := hx384_0
    cases e384
    replace hx384_0 := pw_cell_below HB.out hx384_0
    replace hx384_1 := pw_cell_below HB.out hx384_1
    replace hx384_2 := pw_cell_below HB.out hx384_2
    replace hx384_3 := pw_cell_below HB.out hx384_3
    replace p384 := eq_true p384
    replace q384 := eq_true q384
    refine start_ (n := 8) (S := fun w' => w'.cell? (ad384.add ((x5_1).toNat * 4)) = some (.string ((rd_T64 l0 x5_1).f0)) ∧ w'.cell? ⟨(ad384.add ((x5_1).toNat * 4)).block, (ad384.add ((x5_1).toNat * 4)).off + 1, none⟩ = some (.string ((rd_T64 l0 x5_1).f1)) ∧ w'.cell? ⟨(ad384.add ((x5_1).toNat * 4)).block, (ad384.add ((x5_1).toNat * 4)).off + 2, none⟩ = some (.string ((rd_T64 l0 x5_1).f2)) ∧ w'.cell? ⟨(ad384.add ((x5_1).toNat * 4)).block, (ad384.add ((x5_1).toNat * 4)).off + 3, none⟩ = some (.string ((rd_T64 l0 x5_1).f3))) (ds := []) #[false, false, false, false, false, false, false, false] (by kernel_rfl) rfl rfl ⟨(pw_cell_below HB.out hw384_0), (pw_cell_below HB.out hw384_1), (pw_cell_below HB.out hw384_2), (pw_cell_below HB.out hw384_3)⟩ (fun hHeld => ?_); refine with_tabW laws_heldAttrS.tab4 laws_heldAttrS.bits4 (fun HT_ HW_ => ?_)
    generalize wr.drew = w6 at HB hx384_0 hx384_1 hx384_2 hx384_3 hHeld ⊢
    refine pU 0 12 (tf 1 7) ?_
    refine pU 1 13 (tf 2 6) ?_
    refine pU 2 14 (tf 3 5) ?_
    refine pU 3 15 (tf 4 4) ?_
    refine pU 5 17 #[true, true, true, true, false, true, false, false] ?_
    refine take_ (i := 4) (N := some 16) (v := ?_) (a' := ?_) (tf 6 2) rfl rfl (take_ofW HT_.out HW_.out (by kernel_rfl)) (fun _ _ _ h => h) (Or.inl ⟨by rfl, ?_⟩) hHeld ?_ ?_
    rotate_left
    ·rintro w' ⟨s0, s1, s2, s3⟩
     go_simp
     with_reducible rfl
    rotate_left
    ·simp only [Act.put, sT, sZ, sS, i64_w, i32_w]
     rfl
    refine one_ (i := 6) (N := some 18) (tf 7 1) rfl rfl (one_of HT_.out (by kernel_rfl)) (by decide) (fun K hK => ?_)
    refine goes_ Tryd.func38 (by kernel_rfl) rfl #[.int .i64 x1_1] (by rfl) rfl rfl mA ?_
    with_reducible refine (laws_markText.calls k1 x1_1 t385 _ A5.out).mono ?_
    rintro e w7 ⟨rfl, hb⟩
    refine ⟨_, rfl, ?_⟩
    replace HB := Aside0.mk (below_step hB hb)
    (try clear hb)
    (try clear hb2)
    (try clear hk)
    (try clear hi)
    refine hK.out _ _ ⟨(pw_cell_below HB.out hw384_0), (pw_cell_below HB.out hw384_1), (pw_cell_below HB.out hw384_2), (pw_cell_below HB.out hw384_3)⟩ (fun hHeld => ?_)
    clear hK K
    refine norm_ (a' := ?_) ?_ ?_
    rotate_left
    ·show Act.put _ (some 18) _ = _
     simp only [Act.put, sT, sZ, sS, i64_w, i32_w]
     rfl
    refine pU 7 19 (tf 8 0) ?_
    refine done_ (done_of HT_.out (by kernel_rfl)) ?_
    by_cases c8 : ((rd_T64 l0 x5_1).f0).toList = t385.toList
    ·rw [if_pos c8] at H
     obtain ⟨c8b0, c8b1⟩ := eqT c8
     clear c8
     (first | rw [c8b0] | (simp only [i64_w, i32_w]; rw [c8b0]) | skip)
     replace H := Option.bind_eq_some_iff.mp H
     obtain ⟨t387, A90, H⟩ := H
     try dsimp only at H
     have A9 := Aside0.mk A90
     clear A90
     try go_wp2
     replace HB := Aside0.mk (below_drew1 HB.out)
     have p386 : 0 ≤ (x5_1 : Int) := odt
     have q386 : x5_1 < (l0.length : Int) := odt
     obtain ⟨ad386, e386, hx386_0, hx386_1, hx386_2, hx386_3⟩ := at_T64 HR0.out x5_1 p386 q386
     have hw386_3 := hx386_3
     have hw386_2 := hx386_2
     have hw386_1 := hx386_1
     have hw386_0 := hx386_0
     obtain rfl : ad384 = ad386 := (by injection e386)
     replace hx386_0 := pw_cell_below HB.out hx386_0
     replace hx386_1 := pw_cell_below HB.out hx386_1
     replace hx386_2 := pw_cell_below HB.out hx386_2
     replace hx386_3 := pw_cell_below HB.out hx386_3
     replace p386 := eq_true p386
     replace q386 := eq_true q386
     refine start_ (n := 8) (S := fun w' => w'.cell? (ad384.add ((x5_1).toNat * 4)) = some (.string ((rd_T64 l0 x5_1).f0)) ∧ w'.cell? ⟨(ad384.add ((x5_1).toNat * 4)).block, (ad384.add ((x5_1).toNat * 4)).off + 1, none⟩ = some (.string ((rd_T64 l0 x5_1).f1)) ∧ w'.cell? ⟨(ad384.add ((x5_1).toNat * 4)).block, (ad384.add ((x5_1).toNat * 4)).off + 2, none⟩ = some (.string ((rd_T64 l0 x5_1).f2)) ∧ w'.cell? ⟨(ad384.add ((x5_1).toNat * 4)).block, (ad384.add ((x5_1).toNat * 4)).off + 3, none⟩ = some (.string ((rd_T64 l0 x5_1).f3))) (ds := []) #[false, false, false, false, false, false, false, false] (by kernel_rfl) rfl rfl ⟨(pw_cell_below HB.out hw386_0), (pw_cell_below HB.out hw386_1), (pw_cell_below HB.out hw386_2), (pw_cell_below HB.out hw386_3)⟩ (fun hHeld => ?_); refine with_tabW laws_heldAttrS.tab7 laws_heldAttrS.bits7 (fun HT_ HW_ => ?_)
     generalize w7.drew = w10 at HB hx386_0 hx386_1 hx386_2 hx386_3 hHeld ⊢
     refine pU 0 22 (tf 1 7) ?_
     refine pU 1 23 (tf 2 6) ?_
     refine pU 2 24 (tf 3 5) ?_
     refine pU 3 25 (tf 4 4) ?_
     refine pU 5 27 #[true, true, true, true, false, true, false, false] ?_
     refine take_ (i := 4) (N := some 26) (v := ?_) (a' := ?_) (tf 6 2) rfl rfl (take_ofW HT_.out HW_.out (by kernel_rfl)) (fun _ _ _ h => h) (Or.inl ⟨by rfl, ?_⟩) hHeld ?_ ?_
     rotate_left
     ·rintro w' ⟨s0, s1, s2, s3⟩
      go_simp
      with_reducible rfl
     rotate_left
     ·simp only [Act.put, sT, sZ, sS, i64_w, i32_w]
      rfl
     refine one_ (i := 6) (N := some 28) (tf 7 1) rfl rfl (one_of HT_.out (by kernel_rfl)) (by decide) (fun K hK => ?_)
     refine goes_ Tryd.func38 (by kernel_rfl) rfl #[.int .i64 (wrap64 (x1_1 + 1))] (by rfl) rfl rfl mA ?_
     with_reducible refine (laws_markText.calls k1 (wrap64 (x1_1 + 1)) t387 _ A9.out).mono ?_
     rintro e w11 ⟨rfl, hb⟩
     refine ⟨_, rfl, ?_⟩
     replace HB := Aside0.mk (below_step hB hb)
     (try clear hb)
     (try clear hb2)
     (try clear hk)
     (try clear hi)
     refine hK.out _ _ ⟨(pw_cell_below HB.out hw386_0), (pw_cell_below HB.out hw386_1), (pw_cell_below HB.out hw386_2), (pw_cell_below HB.out hw386_3)⟩ (fun hHeld => ?_)
     clear hK K
     refine norm_ (a' := ?_) ?_ ?_
     rotate_left
     ·show Act.put _ (some 28) _ = _
      simp only [Act.put, sT, sZ, sS, i64_w, i32_w]
      rfl
     refine pU 7 29 (tf 8 0) ?_
     refine done_ (done_of HT_.out (by kernel_rfl)) ?_
     by_cases c12 : ((rd_T64 l0 x5_1).f1).toList = t387.toList
     ·rw [if_pos c12] at H
      obtain ⟨c12b0, c12b1⟩ := eqT c12
      clear c12
      (first | rw [c12b0] | (simp only [i64_w, i32_w]; rw [c12b0]) | skip)
      replace H := Option.bind_eq_some_iff.mp H
      obtain ⟨t389, A130, H⟩ := H
      try dsimp only at H
      have A13 := Aside0.mk A130
      clear A130
      try go_wp2
      replace HB := Aside0.mk (below_drew1 HB.out)
      have p388 : 0 ≤ (x5_1 : Int) := odt
      have q388 : x5_1 < (l0.length : Int) := odt
      obtain ⟨ad388, e388, hx388_0, hx388_1, hx388_2, hx388_3⟩ := at_T64 HR0.out x5_1 p388 q388
      have hw388_3 := hx388_3
      have hw388_2 := hx388_2
      have hw388_1 := hx388_1
      have hw388_0 := hx388_0
      obtain rfl : ad384 = ad388 := (by injection e388)
      replace hx388_0 := pw_cell_below HB.out hx388_0
      replace hx388_1 := pw_cell_below HB.out hx388_1
      replace hx388_2 := pw_cell_below HB.out hx388_2
      replace hx388_3 := pw_cell_below HB.out hx388_3
      replace p388 := eq_true p388
      replace q388 := eq_true q388
      refine start_ (n := 8) (S := fun w' => w'.cell? (ad384.add ((x5_1).toNat * 4)) = some (.string ((rd_T64 l0 x5_1).f0)) ∧ w'.cell? ⟨(ad384.add ((x5_1).toNat * 4)).block, (ad384.add ((x5_1).toNat * 4)).off + 1, none⟩ = some (.string ((rd_T64 l0 x5_1).f1)) ∧ w'.cell? ⟨(ad384.add ((x5_1).toNat * 4)).block, (ad384.add ((x5_1).toNat * 4)).off + 2, none⟩ = some (.string ((rd_T64 l0 x5_1).f2)) ∧ w'.cell? ⟨(ad384.add ((x5_1).toNat * 4)).block, (ad384.add ((x5_1).toNat * 4)).off + 3, none⟩ = some (.string ((rd_T64 l0 x5_1).f3))) (ds := []) #[false, false, false, false, false, false, false, false] (by kernel_rfl) rfl rfl ⟨(pw_cell_below HB.out hw388_0), (pw_cell_below HB.out hw388_1), (pw_cell_below HB.out hw388_2), (pw_cell_below HB.out hw388_3)⟩ (fun hHeld => ?_); refine with_tabW laws_heldAttrS.tab10 laws_heldAttrS.bits10 (fun HT_ HW_ => ?_)
      generalize w11.drew = w14 at HB hx388_0 hx388_1 hx388_2 hx388_3 hHeld ⊢
      refine pU 0 32 (tf 1 7) ?_
      refine pU 1 33 (tf 2 6) ?_
      refine pU 2 34 (tf 3 5) ?_
      refine pU 3 35 (tf 4 4) ?_
      refine pU 5 37 #[true, true, true, true, false, true, false, false] ?_
      refine take_ (i := 4) (N := some 36) (v := ?_) (a' := ?_) (tf 6 2) rfl rfl (take_ofW HT_.out HW_.out (by kernel_rfl)) (fun _ _ _ h => h) (Or.inl ⟨by rfl, ?_⟩) hHeld ?_ ?_
      rotate_left
      ·rintro w' ⟨s0, s1, s2, s3⟩
       go_simp
       with_reducible rfl
      rotate_left
      ·simp only [Act.put, sT, sZ, sS, i64_w, i32_w]
       rfl
      refine one_ (i := 6) (N := some 38) (tf 7 1) rfl rfl (one_of HT_.out (by kernel_rfl)) (by decide) (fun K hK => ?_)
      refine goes_ Tryd.func38 (by kernel_rfl) rfl #[.int .i64 (wrap64 ((wrap64 (x1_1 + 1)) + 1))] (by rfl) rfl rfl mA ?_
      with_reducible refine (laws_markText.calls k1 (wrap64 ((wrap64 (x1_1 + 1)) + 1)) t389 _ A13.out).mono ?_
      rintro e w15 ⟨rfl, hb⟩
      refine ⟨_, rfl, ?_⟩
      replace HB := Aside0.mk (below_step hB hb)
      (try clear hb)
      (try clear hb2)
      (try clear hk)
      (try clear hi)
      refine hK.out _ _ ⟨(pw_cell_below HB.out hw388_0), (pw_cell_below HB.out hw388_1), (pw_cell_below HB.out hw388_2), (pw_cell_below HB.out hw388_3)⟩ (fun hHeld => ?_)
      clear hK K
      refine norm_ (a' := ?_) ?_ ?_
      rotate_left
      ·show Act.put _ (some 38) _ = _
       simp only [Act.put, sT, sZ, sS, i64_w, i32_w]
       rfl
      refine pU 7 39 (tf 8 0) ?_
      refine done_ (done_of HT_.out (by kernel_rfl)) ?_
      by_cases c16 : ((rd_T64 l0 x5_1).f2).toList = t389.toList
      ·rw [if_pos c16] at H
       obtain ⟨c16b0, c16b1⟩ := eqT c16
       clear c16
       (first | rw [c16b0] | (simp only [i64_w, i32_w]; rw [c16b0]) | skip)
       replace H := Option.bind_eq_some_iff.mp H
       obtain ⟨t391, A170, H⟩ := H
       try dsimp only at H
       have A17 := Aside0.mk A170
       clear A170
       try go_wp2
       replace HB := Aside0.mk (below_drew1 HB.out)
       have p390 : 0 ≤ (x5_1 : Int) := odt
       have q390 : x5_1 < (l0.length : Int) := odt
       obtain ⟨ad390, e390, hx390_0, hx390_1, hx390_2, hx390_3⟩ := at_T64 HR0.out x5_1 p390 q390
       have hw390_3 := hx390_3
       have hw390_2 := hx390_2
       have hw390_1 := hx390_1
       have hw390_0 := hx390_0
       obtain rfl : ad384 = ad390 := (by injection e390)
       replace hx390_0 := pw_cell_below HB.out hx390_0
       replace hx390_1 := pw_cell_below HB.out hx390_1
       replace hx390_2 := pw_cell_below HB.out hx390_2
       replace hx390_3 := pw_cell_below HB.out hx390_3
       replace p390 := eq_true p390
       replace q390 := eq_true q390
       refine start_ (n := 8) (S := fun w' => w'.cell? (ad384.add ((x5_1).toNat * 4)) = some (.string ((rd_T64 l0 x5_1).f0)) ∧ w'.cell? ⟨(ad384.add ((x5_1).toNat * 4)).block, (ad384.add ((x5_1).toNat * 4)).off + 1, none⟩ = some (.string ((rd_T64 l0 x5_1).f1)) ∧ w'.cell? ⟨(ad384.add ((x5_1).toNat * 4)).block, (ad384.add ((x5_1).toNat * 4)).off + 2, none⟩ = some (.string ((rd_T64 l0 x5_1).f2)) ∧ w'.cell? ⟨(ad384.add ((x5_1).toNat * 4)).block, (ad384.add ((x5_1).toNat * 4)).off + 3, none⟩ = some (.string ((rd_T64 l0 x5_1).f3))) (ds := []) #[false, false, false, false, false, false, false, false] (by kernel_rfl) rfl rfl ⟨(pw_cell_below HB.out hw390_0), (pw_cell_below HB.out hw390_1), (pw_cell_below HB.out hw390_2), (pw_cell_below HB.out hw390_3)⟩ (fun hHeld => ?_); refine with_tabW laws_heldAttrS.tab13 laws_heldAttrS.bits13 (fun HT_ HW_ => ?_)
       generalize w15.drew = w18 at HB hx390_0 hx390_1 hx390_2 hx390_3 hHeld ⊢
       refine pU 0 42 (tf 1 7) ?_
       refine pU 1 43 (tf 2 6) ?_
       refine pU 2 44 (tf 3 5) ?_
       refine pU 3 45 (tf 4 4) ?_
       refine pU 5 47 #[true, true, true, true, false, true, false, false] ?_
       refine take_ (i := 4) (N := some 46) (v := ?_) (a' := ?_) (tf 6 2) rfl rfl (take_ofW HT_.out HW_.out (by kernel_rfl)) (fun _ _ _ h => h) (Or.inl ⟨by rfl, ?_⟩) hHeld ?_ ?_
       rotate_left
       ·rintro w' ⟨s0, s1, s2, s3⟩
        go_simp
        with_reducible rfl
       rotate_left
       ·simp only [Act.put, sT, sZ, sS, i64_w, i32_w]
        rfl
       refine one_ (i := 6) (N := some 48) (tf 7 1) rfl rfl (one_of HT_.out (by kernel_rfl)) (by decide) (fun K hK => ?_)
       refine goes_ Tryd.func38 (by kernel_rfl) rfl #[.int .i64 (wrap64 ((wrap64 ((wrap64 (x1_1 + 1)) + 1)) + 1))] (by rfl) rfl rfl mA ?_
       with_reducible refine (laws_markText.calls k1 (wrap64 ((wrap64 ((wrap64 (x1_1 + 1)) + 1)) + 1)) t391 _ A17.out).mono ?_
       rintro e w19 ⟨rfl, hb⟩
       refine ⟨_, rfl, ?_⟩
       replace HB := Aside0.mk (below_step hB hb)
       (try clear hb)
       (try clear hb2)
       (try clear hk)
       (try clear hi)
       refine hK.out _ _ ⟨(pw_cell_below HB.out hw390_0), (pw_cell_below HB.out hw390_1), (pw_cell_below HB.out hw390_2), (pw_cell_below HB.out hw390_3)⟩ (fun hHeld => ?_)
       clear hK K
       refine norm_ (a' := ?_) ?_ ?_
       rotate_left
       ·show Act.put _ (some 48) _ = _
        simp only [Act.put, sT, sZ, sS, i64_w, i32_w]
        rfl
       refine pU 7 49 (tf 8 0) ?_
       refine done_ (done_of HT_.out (by kernel_rfl)) ?_
       by_cases c20 : ((rd_T64 l0 x5_1).f3).toList = t391.toList
       ·rw [if_pos c20] at H
        obtain ⟨c20b0, c20b1⟩ := eqT c20
        clear c20
        (first | rw [c20b0] | (simp only [i64_w, i32_w]; rw [c20b0]) | skip)
        have H' := Aside0.mk H
        clear H
        go_wp2
        go_roundg k1
        case measure => have := HK1.out; omega
        case rel => exact ⟨(wrap64 ((wrap64 ((wrap64 ((wrap64 (x1_1 + 1)) + 1)) + 1)) + 1)), (wrap64 (x5_1 + 1)), rG, rG, H', ⟨by have := HK1.out; omega⟩, ⟨hB⟩⟩
       ·rw [if_neg c20] at H
        obtain ⟨c20b0, c20b1⟩ := eqF c20
        (first | rw [c20b0] | (simp only [i64_w, i32_w]; rw [c20b0]) | skip)
        obtain rfl := Option.some.inj H
        go_wp2
        go_ret
        exact ⟨rE, hB⟩
      ·rw [if_neg c16] at H
       obtain ⟨c16b0, c16b1⟩ := eqF c16
       (first | rw [c16b0] | (simp only [i64_w, i32_w]; rw [c16b0]) | skip)
       obtain rfl := Option.some.inj H
       go_wp2
       go_ret
       exact ⟨rE, hB⟩
     ·rw [if_neg c12] at H
      obtain ⟨c12b0, c12b1⟩ := eqF c12
      (first | rw [c12b0] | (simp only [i64_w, i32_w]; rw [c12b0]) | skip)
      obtain rfl := Option.some.inj H
      go_wp2
      go_ret
      exact ⟨rE, hB⟩
    ·rw [if_neg c8] at H
     obtain ⟨c8b0, c8b1⟩ := eqF c8
     (first | rw [c8b0] | (simp only [i64_w, i32_w]; rw [c8b0]) | skip)
     obtain rfl := Option.some.inj H
     go_wp2
     go_ret
     exact ⟨rE, hB⟩
   ·rw [if_neg c3] at H
    have c3b0 : decide (x5_1 < (l0.length : Int)) = false := decide_eq_false c3
    clear c3
    obtain rfl := Option.some.inj H
    go_wp2
    go_ret
    exact ⟨rE, hB⟩

/-! ### laws_szNode: function 4 -/
def laws_szNode.F (G_ : List (S26) → Int → Option (Int)) (k : Nat) (a0_0 : Int) (a0_1 : ByteArray) (a0_2 : ByteArray) (a0_3 : ByteArray) (l0_4 : List (S76)) (l0_5 : List (S78)) (l0_6 : List (S26)) (a0_7 : ByteArray) (a1 : Int) : Option (Int) := if (wrap64 (a1 - (a0_1.size : Int))) < 0 then (some (-1)) else (if (wrap64 ((wrap64 (a1 - (a0_1.size : Int))) - (a0_2.size : Int))) < 0 then (some (-1)) else (if (wrap64 ((wrap64 ((wrap64 (a1 - (a0_1.size : Int))) - (a0_2.size : Int))) - (a0_3.size : Int))) < 0 then (some (-1)) else ((laws_szDeclS.f k l0_4 (wrap64 ((wrap64 ((wrap64 (a1 - (a0_1.size : Int))) - (a0_2.size : Int))) - (a0_3.size : Int)))).bind fun t108 => (if t108 < 0 then (some (-1)) else ((laws_szAttrS.f k l0_5 t108).bind fun t109 => (if t109 < 0 then (some (-1)) else ((G_ l0_6 t109).bind fun t110 => (if t110 < 0 then (some (-1)) else (if (wrap64 (t110 - (a0_7.size : Int))) < 0 then (some (-1)) else (some (wrap64 (t110 - (a0_7.size : Int)))))))))))))
theorem laws_szNode.monoF {G_ G2_ : List (S26) → Int → Option (Int)} (hG_ : ∀ y0_ y1_, LeO (G_ y0_ y1_) (G2_ y0_ y1_)) : ∀ a0 a1 a2 a3 a4 a5 a6 a7 a8 k, LeO (laws_szNode.F G_ k a0 a1 a2 a3 a4 a5 a6 a7 a8) (laws_szNode.F G2_ (k + 1) a0 a1 a2 a3 a4 a5 a6 a7 a8) := by
 intro a0 a1 a2 a3 a4 a5 a6 a7 a8 k
 unfold laws_szNode.F
 repeat' first
   | (with_reducible exact laws_szAttrS.mono _ _ _)
   | (with_reducible exact laws_szDeclS.mono _ _ _)
   | (with_reducible exact hG_ _ _)
   | (with_reducible exact LeO.refl _)
   | (with_reducible exact LeO.none _)
   | (with_reducible refine LeO.ite ?_ ?_)
   | (with_reducible refine LeO.bind ?_ (fun _ => ?_))
   | exact laws_szAttrS.mono _ _ _
   | exact laws_szDeclS.mono _ _ _
   | exact hG_ _ _
   | exact LeO.none _
   | refine LeO.ite ?_ ?_
   | refine LeO.bind ?_ (fun _ => ?_)
theorem laws_szNode.callsF (G_ : List (S26) → Int → Option (Int)) (hG_ : ∀ (A0 : Option Addr) (c0 : Nat) (l0 : List (S26)) (a1 : Int) (r : Int) (w : World) (hr0 : Kd.C k26 w A0 l0.length l0) (hc0 : l0.length ≤ c0) (h : G_ l0 a1 = some r), Calls Tryd.prog 19 #[.slice A0 l0.length c0, .int .i64 a1] w fun e w' => e = .returned (.int .i64 r) ∧ Below w.heap.size w w') (k : Nat) (a0_0 : Int) (a0_1 : ByteArray) (a0_2 : ByteArray) (a0_3 : ByteArray) (A0_4 : Option Addr) (c0_4 : Nat) (l0_4 : List (S76)) (A0_5 : Option Addr) (c0_5 : Nat) (l0_5 : List (S78)) (A0_6 : Option Addr) (c0_6 : Nat) (l0_6 : List (S26)) (a0_7 : ByteArray) (a1 : Int) (r : Int) (w : World) (hr0_4 : Kd.C k76 w A0_4 l0_4.length l0_4) (hc0_4 : l0_4.length ≤ c0_4) (hr0_5 : Kd.C k78 w A0_5 l0_5.length l0_5) (hc0_5 : l0_5.length ≤ c0_5) (hr0_6 : Kd.C k26 w A0_6 l0_6.length l0_6) (hc0_6 : l0_6.length ≤ c0_6) (h : laws_szNode.F G_ k a0_0 a0_1 a0_2 a0_3 l0_4 l0_5 l0_6 a0_7 a1 = some r) :
  Calls Tryd.prog 4 #[.agg #[.int .i64 a0_0, .string a0_1, .string a0_2, .string a0_3, .slice A0_4 l0_4.length c0_4, .slice A0_5 l0_5.length c0_5, .slice A0_6 l0_6.length c0_6, .string a0_7], .int .i64 a1] w fun e w' => e = .returned (.int .i64 r) ∧ Below w.heap.size w w' := by
 have hu26 := Tryd.underlying26
 have HR0_4 := Aside0.mk hr0_4
 have HC0_4 := Aside0.mk hc0_4
 clear hr0_4 hc0_4
 have HR0_5 := Aside0.mk hr0_5
 have HC0_5 := Aside0.mk hc0_5
 clear hr0_5 hc0_5
 have HR0_6 := Aside0.mk hr0_6
 have HC0_6 := Aside0.mk hc0_6
 clear hr0_6 hc0_6
 have HB := Aside0.mk (Below.refl w.heap.size w)
 have H : (if (wrap64 (a1 - (a0_1.size : Int))) < 0 then (some (-1)) else (if (wrap64 ((wrap64 (a1 - (a0_1.size : Int))) - (a0_2.size : Int))) < 0 then (some (-1)) else (if (wrap64 ((wrap64 ((wrap64 (a1 - (a0_1.size : Int))) - (a0_2.size : Int))) - (a0_3.size : Int))) < 0 then (some (-1)) else ((laws_szDeclS.f k l0_4 (wrap64 ((wrap64 ((wrap64 (a1 - (a0_1.size : Int))) - (a0_2.size : Int))) - (a0_3.size : Int)))).bind fun t108 => (if t108 < 0 then (some (-1)) else ((laws_szAttrS.f k l0_5 t108).bind fun t109 => (if t109 < 0 then (some (-1)) else ((G_ l0_6 t109).bind fun t110 => (if t110 < 0 then (some (-1)) else (if (wrap64 (t110 - (a0_7.size : Int))) < 0 then (some (-1)) else (some (wrap64 (t110 - (a0_7.size : Int)))))))))))))) = some r := h
 clear h
 go_enter Tryd.func4, Tryd.ntmps4
 go_wp2_with (first | ((with_reducible refine gate_dst (N := 2) rfl ?_); refine box_event ?hg (N := 2) ?hd (cs := #[.int .i64 a0_0, .string a0_1, .string a0_2, .string a0_3, .slice A0_4 l0_4.length c0_4, .slice A0_5 l0_5.length c0_5, .slice A0_6 l0_6.length c0_6, .string a0_7]) (t := 26) ?hr ?_; (case hd => rfl); (case hg => rfl); (case hr => first | (go_simp; done) | (go_simp; rfl)); intro gb107 hg w3 hbox hb; have BK107 := Aside0.mk (hbox); have GW107 := Aside0.mk ((by rw [hg]; exact (below_size hB) : w.heap.size ≤ gb107)); have GE107 := Aside0.mk ((by rw [hg]; exact (below_size hB) : w.heap.size ≤ gb107)); replace HB := Aside0.mk (below_step hB hb); clear hb hbox hg; obtain ⟨hcz4_0, hcz4_1, hcz4_2, hcz4_3, hcz4_4, hcz4_5, hcz4_6, hcz4_7⟩ := bc8 BK107.out; refine halt_ ?_; intro q_ hq_))
 obtain ⟨rfl⟩ := hq_
 by_cases c5 : (wrap64 (a1 - (a0_1.size : Int))) < 0
 ·rw [if_pos c5] at H
  have c5b0 : decide ((wrap64 (a1 - (a0_1.size : Int))) < 0) = true := decide_eq_true c5
  clear c5
  obtain rfl := Option.some.inj H
  go_wp2
  go_ret
  exact ⟨rE, hB⟩
 ·rw [if_neg c5] at H
  have c5b0 : decide ((wrap64 (a1 - (a0_1.size : Int))) < 0) = false := decide_eq_false c5
  clear c5
  by_cases c6 : (wrap64 ((wrap64 (a1 - (a0_1.size : Int))) - (a0_2.size : Int))) < 0
  ·rw [if_pos c6] at H
   have c6b0 : decide ((wrap64 ((wrap64 (a1 - (a0_1.size : Int))) - (a0_2.size : Int))) < 0) = true := decide_eq_true c6
   clear c6
   obtain rfl := Option.some.inj H
   obtain ⟨hcz7_0, hcz7_1, hcz7_2, hcz7_3, hcz7_4, hcz7_5, hcz7_6, hcz7_7⟩ := bc8 BK107.out
   go_wp2
   go_ret
   exact ⟨rE, hB⟩
  ·rw [if_neg c6] at H
   have c6b0 : decide ((wrap64 ((wrap64 (a1 - (a0_1.size : Int))) - (a0_2.size : Int))) < 0) = false := decide_eq_false c6
   clear c6
   by_cases c8 : (wrap64 ((wrap64 ((wrap64 (a1 - (a0_1.size : Int))) - (a0_2.size : Int))) - (a0_3.size : Int))) < 0
   ·rw [if_pos c8] at H
    have c8b0 : decide ((wrap64 ((wrap64 ((wrap64 (a1 - (a0_1.size : Int))) - (a0_2.size : Int))) - (a0_3.size : Int))) < 0) = true := decide_eq_true c8
    clear c8
    obtain rfl := Option.some.inj H
    obtain ⟨hcz9_0, hcz9_1, hcz9_2, hcz9_3, hcz9_4, hcz9_5, hcz9_6, hcz9_7⟩ := bc8 BK107.out
    go_wp2
    go_ret
    exact ⟨rE, hB⟩
   ·rw [if_neg c8] at H
    have c8b0 : decide ((wrap64 ((wrap64 ((wrap64 (a1 - (a0_1.size : Int))) - (a0_2.size : Int))) - (a0_3.size : Int))) < 0) = false := decide_eq_false c8
    clear c8
    replace H := Option.bind_eq_some_iff.mp H
    obtain ⟨t108, A100, H⟩ := H
    try dsimp only at H
    have A10 := Aside0.mk A100
    clear A100
    obtain ⟨hcz11_0, hcz11_1, hcz11_2, hcz11_3, hcz11_4, hcz11_5, hcz11_6, hcz11_7⟩ := bc8 BK107.out
    go_wp2_with (first | ((with_reducible refine gate_callee (f := 17) rfl ?_); refine goesL_ (some 29) rfl rfl Tryd.func17 (by kernel_rfl) rfl #[.slice A0_4 l0_4.length c0_4, .int .i64 (wrap64 ((wrap64 ((wrap64 (a1 - (a0_1.size : Int))) - (a0_2.size : Int))) - (a0_3.size : Int)))] rfl mA ?_; (with_reducible refine (laws_szDeclS.calls k _ _ l0_4 (wrap64 ((wrap64 ((wrap64 (a1 - (a0_1.size : Int))) - (a0_2.size : Int))) - (a0_3.size : Int))) t108 _ ?side1 ?side2 A10.out).mono ?_); (case side1 => repeat (first | exact (Kd.C_below HR0_4.out HB.out) | (with_reducible refine Kd.C_alloc ?_ _) | (with_reducible refine Kd.C_drewN ?_ _) | (with_reducible refine Kd.C_drew ?_))); (case side2 => exact HC0_4.out); rintro e w12 ⟨rfl, hb⟩; refine ⟨_, rfl, ?_⟩; replace BK107 := Aside0.mk (blk_below (g := gb107) (by (with_reducible repeat (first | refine bN ?_ _|refine bD ?_|refine bA ?_ _)); exact BK107.out) hb); replace HB := Aside0.mk (below_step hB hb); (try clear hb); (try clear hb2); (try clear hk); (try clear hi); refine halt_ ?_; intro q_ hq_))
    obtain ⟨rfl⟩ := hq_
    by_cases c13 : t108 < 0
    ·rw [if_pos c13] at H
     have c13b0 : decide (t108 < 0) = true := decide_eq_true c13
     clear c13
     obtain rfl := Option.some.inj H
     go_wp2
     go_ret
     exact ⟨rE, hB⟩
    ·rw [if_neg c13] at H
     have c13b0 : decide (t108 < 0) = false := decide_eq_false c13
     clear c13
     replace H := Option.bind_eq_some_iff.mp H
     obtain ⟨t109, A140, H⟩ := H
     try dsimp only at H
     have A14 := Aside0.mk A140
     clear A140
     obtain ⟨hcz15_0, hcz15_1, hcz15_2, hcz15_3, hcz15_4, hcz15_5, hcz15_6, hcz15_7⟩ := bc8 BK107.out
     go_wp2_with (first | ((with_reducible refine gate_callee (f := 18) rfl ?_); refine goesL_ (some 35) rfl rfl Tryd.func18 (by kernel_rfl) rfl #[.slice A0_5 l0_5.length c0_5, .int .i64 t108] rfl mA ?_; (with_reducible refine (laws_szAttrS.calls k _ _ l0_5 t108 t109 _ ?side1 ?side2 A14.out).mono ?_); (case side1 => repeat (first | exact (Kd.C_below HR0_5.out HB.out) | (with_reducible refine Kd.C_alloc ?_ _) | (with_reducible refine Kd.C_drewN ?_ _) | (with_reducible refine Kd.C_drew ?_))); (case side2 => exact HC0_5.out); rintro e w16 ⟨rfl, hb⟩; refine ⟨_, rfl, ?_⟩; replace BK107 := Aside0.mk (blk_below (g := gb107) (by (with_reducible repeat (first | refine bN ?_ _|refine bD ?_|refine bA ?_ _)); exact BK107.out) hb); replace HB := Aside0.mk (below_step hB hb); (try clear hb); (try clear hb2); (try clear hk); (try clear hi); refine halt_ ?_; intro q_ hq_))
     obtain ⟨rfl⟩ := hq_
     by_cases c17 : t109 < 0
     ·rw [if_pos c17] at H
      have c17b0 : decide (t109 < 0) = true := decide_eq_true c17
      clear c17
      obtain rfl := Option.some.inj H
      go_wp2
      go_ret
      exact ⟨rE, hB⟩
     ·rw [if_neg c17] at H
      have c17b0 : decide (t109 < 0) = false := decide_eq_false c17
      clear c17
      replace H := Option.bind_eq_some_iff.mp H
      obtain ⟨t110, A180, H⟩ := H
      try dsimp only at H
      have A18 := Aside0.mk A180
      clear A180
      obtain ⟨hcz19_0, hcz19_1, hcz19_2, hcz19_3, hcz19_4, hcz19_5, hcz19_6, hcz19_7⟩ := bc8 BK107.out
      go_wp2_with (first | ((with_reducible refine gate_callee (f := 19) rfl ?_); refine goesL_ (some 41) rfl rfl Tryd.func19 (by kernel_rfl) rfl #[.slice A0_6 l0_6.length c0_6, .int .i64 t109] rfl mA ?_; (with_reducible refine (hG_ _ _ l0_6 t109 t110 _ ?side1 ?side2 A18.out).mono ?_); (case side1 => repeat (first | exact (Kd.C_below HR0_6.out HB.out) | (with_reducible refine Kd.C_alloc ?_ _) | (with_reducible refine Kd.C_drewN ?_ _) | (with_reducible refine Kd.C_drew ?_))); (case side2 => exact HC0_6.out); rintro e w20 ⟨rfl, hb⟩; refine ⟨_, rfl, ?_⟩; replace BK107 := Aside0.mk (blk_below (g := gb107) (by (with_reducible repeat (first | refine bN ?_ _|refine bD ?_|refine bA ?_ _)); exact BK107.out) hb); replace HB := Aside0.mk (below_step hB hb); (try clear hb); (try clear hb2); (try clear hk); (try clear hi); refine halt_ ?_; intro q_ hq_))
      obtain ⟨rfl⟩ := hq_
      by_cases c21 : t110 < 0
      ·rw [if_pos c21] at H
       have c21b0 : decide (t110 < 0) = true := decide_eq_true c21
       clear c21
       obtain rfl := Option.some.inj H
       go_wp2
       go_ret
       exact ⟨rE, hB⟩
      ·rw [if_neg c21] at H
       have c21b0 : decide (t110 < 0) = false := decide_eq_false c21
       clear c21
       by_cases c22 : (wrap64 (t110 - (a0_7.size : Int))) < 0
       ·rw [if_pos c22] at H
        have c22b0 : decide ((wrap64 (t110 - (a0_7.size : Int))) < 0) = true := decide_eq_true c22
        clear c22
        obtain rfl := Option.some.inj H
        obtain ⟨hcz23_0, hcz23_1, hcz23_2, hcz23_3, hcz23_4, hcz23_5, hcz23_6, hcz23_7⟩ := bc8 BK107.out
        go_wp2
        go_ret
        exact ⟨rE, hB⟩
       ·rw [if_neg c22] at H
        have c22b0 : decide ((wrap64 (t110 - (a0_7.size : Int))) < 0) = false := decide_eq_false c22
        clear c22
        obtain rfl := Option.some.inj H
        obtain ⟨hcz24_0, hcz24_1, hcz24_2, hcz24_3, hcz24_4, hcz24_5, hcz24_6, hcz24_7⟩ := bc8 BK107.out
        go_wp2
        go_ret
        exact ⟨rE, hB⟩
/-! ### laws_szNodeS: function 19 -/
mutual
def laws_szNodeS.l0 : Nat → List (S26) → Int → Int → Option (Int)
 | 0, _, _, _ => none
 | k + 1, x0, x1, x5 => if x5 < (x0.length : Int) then (if 0 ≤ x5 then ((laws_szNode.F (fun y0_ y1_ => laws_szNodeS.f k y0_ y1_) k ((rd_T26 x0 x5).f0) ((rd_T26 x0 x5).f1) ((rd_T26 x0 x5).f2) ((rd_T26 x0 x5).f3) ((rd_T26 x0 x5).f4) ((rd_T26 x0 x5).f5) ((rd_T26 x0 x5).f6) ((rd_T26 x0 x5).f7) x1).bind fun t393 => (if t393 < 0 then (some (-1)) else (laws_szNodeS.l0 k x0 t393 (wrap64 (x5 + 1))))) else (none)) else (some x1)
def laws_szNodeS.f : Nat → List (S26) → Int → Option (Int)
 | 0, _, _ => none
 | k + 1, l0, a1 => if (wrap64 (a1 - (l0.length : Int))) < 0 then (some (-1)) else (laws_szNodeS.l0 k l0 (wrap64 (a1 - (l0.length : Int))) 0)
end
theorem laws_szNodeS.calls (k : Nat) : ∀ (A0 : Option Addr) (c0 : Nat) (l0 : List (S26)) (a1 : Int) (r : Int) (w : World) (hr0 : Kd.C k26 w A0 l0.length l0) (hc0 : l0.length ≤ c0) (h : laws_szNodeS.f k l0 a1 = some r),
  Calls Tryd.prog 19 #[.slice A0 l0.length c0, .int .i64 a1] w fun e w' => e = .returned (.int .i64 r) ∧ Below w.heap.size w w' := by
 induction k using Nat.strongRecOn with
 | _ k ih =>
 intro A0 c0 l0 a1 r w hr0 hc0 h
 cases k with
 | zero => exact absurd h (by simp [laws_szNodeS.f])
 | succ k =>
 simp only [laws_szNodeS.f] at h
 have hu26 := Tryd.underlying26
 have HR0 := Aside0.mk hr0
 have HC0 := Aside0.mk hc0
 clear hr0 hc0
 have HB := Aside0.mk (Below.refl w.heap.size w)
 have H : (if (wrap64 (a1 - (l0.length : Int))) < 0 then (some (-1)) else (laws_szNodeS.l0 k l0 (wrap64 (a1 - (l0.length : Int))) 0)) = some r := h
 clear h
 by_cases c3 : (wrap64 (a1 - (l0.length : Int))) < 0
 ·rw [if_pos c3] at H
  have c3b0 : decide ((wrap64 (a1 - (l0.length : Int))) < 0) = true := decide_eq_true c3
  clear c3
  obtain rfl := Option.some.inj H
  go_enter Tryd.func19, Tryd.ntmps19
  go_wp2
  go_ret
  exact ⟨rE, hB⟩
 ·rw [if_neg c3] at H
  have c3b0 : decide ((wrap64 (a1 - (l0.length : Int))) < 0) = false := decide_eq_false c3
  clear c3
  have H' := Aside0.mk H
  clear H
  go_enter Tryd.func19, Tryd.ntmps19
  go_wp2
  go_loopg [1, 5] k (fun kq v1 v5 w' => ∃ (x1_1 : Int) (x5_1 : Int), v1 = .int .i64 x1_1 ∧ v5 = .int .i64 x5_1 ∧ Aside0 (laws_szNodeS.l0 kq l0 x1_1 x5_1 = some r) ∧ Aside0 (kq ≤ k) ∧ Aside0 (Below w.heap.size w w'))
  case atStart => exact ⟨(wrap64 (a1 - (l0.length : Int))), (0), rG, rG, H', ⟨Nat.le_refl _⟩, ⟨hB⟩⟩
  case round =>
   clear H'
   try clear c3; try clear c3b0
   obtain ⟨x1_1, x5_1, rfl, rfl, HA, HK1, HB⟩ := hrel
   cases gk with
   | zero => exact absurd HA.out (by simp [laws_szNodeS.l0])
   | succ k1 =>
    have H := HA.out
    clear HA
    simp only [laws_szNodeS.l0] at H
    by_cases c4 : x5_1 < (l0.length : Int)
    ·rw [if_pos c4] at H
     have c4b0 : decide (x5_1 < (l0.length : Int)) = true := decide_eq_true c4
     clear c4
     obtain ⟨c5, H⟩ := if_som H
     have c5b0 : decide (0 ≤ x5_1) = true := decide_eq_true c5
     clear c5
     replace H := Option.bind_eq_some_iff.mp H
     obtain ⟨t393, A60, H⟩ := H
     try dsimp only at H
     have A6 := Aside0.mk A60
     clear A60
     have p392 : 0 ≤ (x5_1 : Int) := odt
     have q392 : x5_1 < (l0.length : Int) := odt
     obtain ⟨ad392, A392_4, c392_4, A392_5, c392_5, A392_6, c392_6, e392, hx392_0, hx392_1, hx392_2, hx392_3, hx392_4, hx392_5, hx392_6, hx392_7, hl392_4, hi392_4, hl392_5, hi392_5, hl392_6, hi392_6⟩ := at_T26 HR0.out x5_1 p392 q392
     cases e392
     replace hx392_0 := pw_cell_below HB.out hx392_0
     replace hx392_1 := pw_cell_below HB.out hx392_1
     replace hx392_2 := pw_cell_below HB.out hx392_2
     replace hx392_3 := pw_cell_below HB.out hx392_3
     replace hx392_4 := pw_cell_below HB.out hx392_4
     replace hx392_5 := pw_cell_below HB.out hx392_5
     replace hx392_6 := pw_cell_below HB.out hx392_6
     replace hx392_7 := pw_cell_below HB.out hx392_7
     have HR392_4 := Aside0.mk hi392_4
     have HC392_4 := Aside0.mk hl392_4
     clear hi392_4 hl392_4
     have HR392_5 := Aside0.mk hi392_5
     have HC392_5 := Aside0.mk hl392_5
     clear hi392_5 hl392_5
     have HR392_6 := Aside0.mk hi392_6
     have HC392_6 := Aside0.mk hl392_6
     clear hi392_6 hl392_6
     replace p392 := eq_true p392
     replace q392 := eq_true q392
     go_wp2_with (first | ((with_reducible refine gate_callee (f := 4) rfl ?_); refine goesL_ (some 23) rfl rfl Tryd.func4 (by kernel_rfl) rfl #[.agg #[.int .i64 ((rd_T26 l0 x5_1).f0), .string ((rd_T26 l0 x5_1).f1), .string ((rd_T26 l0 x5_1).f2), .string ((rd_T26 l0 x5_1).f3), .slice A392_4 ((rd_T26 l0 x5_1).f4).length c392_4, .slice A392_5 ((rd_T26 l0 x5_1).f5).length c392_5, .slice A392_6 ((rd_T26 l0 x5_1).f6).length c392_6, .string ((rd_T26 l0 x5_1).f7)], .int .i64 x1_1] rfl mA ?_; (with_reducible refine (laws_szNode.callsF (laws_szNodeS.f k1) (ih k1 (by first | omega | (have := HK1.out; omega))) k1 ((rd_T26 l0 x5_1).f0) ((rd_T26 l0 x5_1).f1) ((rd_T26 l0 x5_1).f2) ((rd_T26 l0 x5_1).f3) _ _ ((rd_T26 l0 x5_1).f4) _ _ ((rd_T26 l0 x5_1).f5) _ _ ((rd_T26 l0 x5_1).f6) ((rd_T26 l0 x5_1).f7) x1_1 t393 _ ?side1 ?side2 ?side3 ?side4 ?side5 ?side6 A6.out).mono ?_); (case side1 => repeat (first | exact (Kd.C_below HR392_4.out HB.out) | (with_reducible refine Kd.C_alloc ?_ _) | (with_reducible refine Kd.C_drewN ?_ _) | (with_reducible refine Kd.C_drew ?_))); (case side2 => exact HC392_4.out); (case side3 => repeat (first | exact (Kd.C_below HR392_5.out HB.out) | (with_reducible refine Kd.C_alloc ?_ _) | (with_reducible refine Kd.C_drewN ?_ _) | (with_reducible refine Kd.C_drew ?_))); (case side4 => exact HC392_5.out); (case side5 => repeat (first | exact (Kd.C_below HR392_6.out HB.out) | (with_reducible refine Kd.C_alloc ?_ _) | (with_reducible refine Kd.C_drewN ?_ _) | (with_reducible refine Kd.C_drew ?_))); (case side6 => exact HC392_6.out); rintro e w7 ⟨rfl, hb⟩; refine ⟨_, rfl, ?_⟩; replace HB := Aside0.mk (below_step hB hb); (try clear hb); (try clear hb2); (try clear hk); (try clear hi); refine halt_ ?_; intro q_ hq_))
     obtain ⟨rfl⟩ := hq_
     by_cases c8 : t393 < 0
     ·rw [if_pos c8] at H
      have c8b0 : decide (t393 < 0) = true := decide_eq_true c8
      clear c8
      obtain rfl := Option.some.inj H
      go_wp2
      go_ret
      exact ⟨rE, hB⟩
     ·rw [if_neg c8] at H
      have c8b0 : decide (t393 < 0) = false := decide_eq_false c8
      clear c8
      have H' := Aside0.mk H
      clear H
      go_wp2
      go_roundg k1
      case measure => have := HK1.out; omega
      case rel => exact ⟨(t393), (wrap64 (x5_1 + 1)), rG, rG, H', ⟨by have := HK1.out; omega⟩, ⟨hB⟩⟩
    ·rw [if_neg c4] at H
     have c4b0 : decide (x5_1 < (l0.length : Int)) = false := decide_eq_false c4
     clear c4
     obtain rfl := Option.some.inj H
     go_wp2
     go_ret
     exact ⟨rE, hB⟩
def laws_szNode.f (k : Nat) (a0_0 : Int) (a0_1 : ByteArray) (a0_2 : ByteArray) (a0_3 : ByteArray) (l0_4 : List (S76)) (l0_5 : List (S78)) (l0_6 : List (S26)) (a0_7 : ByteArray) (a1 : Int) : Option (Int) := laws_szNode.F (laws_szNodeS.f k) k a0_0 a0_1 a0_2 a0_3 l0_4 l0_5 l0_6 a0_7 a1
theorem laws_szNode.calls (k : Nat) (a0_0 : Int) (a0_1 : ByteArray) (a0_2 : ByteArray) (a0_3 : ByteArray) (A0_4 : Option Addr) (c0_4 : Nat) (l0_4 : List (S76)) (A0_5 : Option Addr) (c0_5 : Nat) (l0_5 : List (S78)) (A0_6 : Option Addr) (c0_6 : Nat) (l0_6 : List (S26)) (a0_7 : ByteArray) (a1 : Int) (r : Int) (w : World) (hr0_4 : Kd.C k76 w A0_4 l0_4.length l0_4) (hc0_4 : l0_4.length ≤ c0_4) (hr0_5 : Kd.C k78 w A0_5 l0_5.length l0_5) (hc0_5 : l0_5.length ≤ c0_5) (hr0_6 : Kd.C k26 w A0_6 l0_6.length l0_6) (hc0_6 : l0_6.length ≤ c0_6) (h : laws_szNode.f k a0_0 a0_1 a0_2 a0_3 l0_4 l0_5 l0_6 a0_7 a1 = some r) :
  Calls Tryd.prog 4 #[.agg #[.int .i64 a0_0, .string a0_1, .string a0_2, .string a0_3, .slice A0_4 l0_4.length c0_4, .slice A0_5 l0_5.length c0_5, .slice A0_6 l0_6.length c0_6, .string a0_7], .int .i64 a1] w fun e w' => e = .returned (.int .i64 r) ∧ Below w.heap.size w w' := laws_szNode.callsF (laws_szNodeS.f k) (laws_szNodeS.calls k) k a0_0 a0_1 a0_2 a0_3 A0_4 c0_4 l0_4 A0_5 c0_5 l0_5 A0_6 c0_6 l0_6 a0_7 a1 r w hr0_4 hc0_4 hr0_5 hc0_5 hr0_6 hc0_6 h

end Go.Proofs.YtdbinpeglamnnaaDoor.PI
