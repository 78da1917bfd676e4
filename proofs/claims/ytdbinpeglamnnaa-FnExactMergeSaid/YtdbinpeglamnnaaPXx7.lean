-- Written by the session's program hprint.py, over the kit's print program. Lean checks it.
import Derived.Test.YtdbinpeglamnnaaPXx0
import Derived.Test.YtdbinpeglamnnaaPXx3
import Derived.Test.YtdbinpeglamnnaaPXx6
namespace Go.Proofs.Ytdbinpeglamnnaa.PX
open Go.RowKit Go.Proofs.YtdbinpeglamnnaaW.PrintWords Go.Proofs.YtdbinpeglamnnaaW.PrintLast Go.Proofs.YtdbinpeglamnnaaW.PrintMore
attribute [local go_sem] max2_int min2_int max_two min_two max_three min_three max_four min_four   -- for this text's walks alone
set_option linter.unusedVariables false
set_option linter.unusedSimpArgs false
set_option maxHeartbeats 8000000
set_option maxRecDepth 100000

/-! ### laws_markAttrS: function 44 -/
def laws_markAttrS.l0 : Nat → List (S90) → Int → Int → Option (Int × (List (S90)))
 | 0, _, _, _ => none
 | k + 1, x0, x1, x5 => if x5 < (x0.length : Int) then ((laws_markText.f k x1).bind fun t379 => (if 0 ≤ x5 then ((some (x0.set (x5 : Int).toNat (⟨t379, (rd_T90 x0 x5).f1, (rd_T90 x0 x5).f2, (rd_T90 x0 x5).f3⟩ : S90) : List (S90))).bind fun y380 => ((laws_markText.f k (wrap64 (x1 + 1))).bind fun t381 => ((some (y380.set (x5 : Int).toNat (⟨(rd_T90 y380 x5).f0, t381, (rd_T90 y380 x5).f2, (rd_T90 y380 x5).f3⟩ : S90) : List (S90))).bind fun y382 => ((laws_markText.f k (wrap64 ((wrap64 (x1 + 1)) + 1))).bind fun t383 => ((some (y382.set (x5 : Int).toNat (⟨(rd_T90 y382 x5).f0, (rd_T90 y382 x5).f1, t383, (rd_T90 y382 x5).f3⟩ : S90) : List (S90))).bind fun y384 => ((laws_markText.f k (wrap64 ((wrap64 ((wrap64 (x1 + 1)) + 1)) + 1))).bind fun t385 => (laws_markAttrS.l0 k (y384.set (x5 : Int).toNat (⟨(rd_T90 y384 x5).f0, (rd_T90 y384 x5).f1, (rd_T90 y384 x5).f2, t385⟩ : S90)) (wrap64 ((wrap64 ((wrap64 ((wrap64 (x1 + 1)) + 1)) + 1)) + 1)) (wrap64 (x5 + 1))))))))) else (none))) else (some (x1, x0))
def laws_markAttrS.f (k : Nat) (l0 : List (S90)) (a1 : Int) : Option (Int × (List (S90))) := laws_markAttrS.l0 k l0 a1 0
theorem laws_markAttrS.calls (k : Nat) (P0_ : Nat → Prop) (u9000_ : Value) (l0 : List (S90)) (a1 : Int) (r1 : Int) (r2 : List (S90)) (w0 w : World) (hB : Below w0.heap.size w0 w) (ho0 : Kd.R k90 90 w w0.heap.size P0_ u9000_ l0) (h : laws_markAttrS.f k l0 a1 = some (r1, r2)) :
  Calls Try.prog 44 #[u9000_, .int .i64 a1] w fun e w' => e = .returned (.int .i64 r1) ∧ Kd.R k90 90 w' w0.heap.size (fun k_ => (P0_ k_ ∨ w.heap.size ≤ k_)) u9000_ r2 ∧ Below w0.heap.size w0 w' ∧ Kept w w' (fun k_ => P0_ k_) := by
 have HO0 := Aside0.mk (show Kd.R k90 90 w w0.heap.size (fun k_ => (P0_ k_ ∨ w.heap.size ≤ k_)) u9000_ l0 from Kd.R_mono ho0 (fun k_ hk => (.inl hk)))
 have HK := Aside0.mk (Kept.refl w (fun k_ => P0_ k_))
 have HW0 := Aside0.mk hB.size
 have HB := Aside0.mk hB
 clear hB
 have H : (laws_markAttrS.l0 k l0 a1 0) = some (r1, r2) := h
 clear h
 have H' := Aside0.mk H
 clear H
 go_enter Try.func44, Try.ntmps44
 go_wp2
 go_loopg [1, 5] k (fun kq v1 v5 w' => ∃ (x0_1 : List (S90)) (x1_1 : Int) (x5_1 : Int), v1 = .int .i64 x1_1 ∧ v5 = .int .i64 x5_1 ∧ Aside0 (laws_markAttrS.l0 kq x0_1 x1_1 x5_1 = some (r1, r2)) ∧ Aside0 (kq ≤ k) ∧ Aside0 (Kd.R k90 90 w' w0.heap.size (fun k_ => (P0_ k_ ∨ w.heap.size ≤ k_)) u9000_ x0_1) ∧ Aside0 (Kept w w' (fun k_ => P0_ k_)) ∧ Aside0 (Below w0.heap.size w0 w'))
 case atStart => exact ⟨(l0), (a1), (0), rG, rG, H', ⟨Nat.le_refl _⟩, ⟨by (with_reducible repeat (first|apply rA|apply rN|apply rD)); exact HO0.out⟩, ⟨by repeat (first|(with_reducible first|exact HK.out | apply Kept.alloc | apply Kept.drewN | apply Kept.drew) | exact HK.out)⟩, ⟨hB⟩⟩
 case round =>
  clear H'
  obtain ⟨x0_1, x1_1, x5_1, rfl, rfl, HA, HK1, HO_0, HK, HB⟩ := hrel
  cases gk with
  | zero => exact absurd HA.out (by simp [laws_markAttrS.l0])
  | succ k1 =>
   have H := HA.out
   clear HA
   simp only [laws_markAttrS.l0] at H
   by_cases c3 : x5_1 < (x0_1.length : Int)
   ·rw [if_pos c3] at H
    have c3b0 : decide (x5_1 < (x0_1.length : Int)) = true := decide_eq_true c3
    clear c3
    replace H := Option.bind_eq_some_iff.mp H
    obtain ⟨t379, A40, H⟩ := H
    try dsimp only at H
    have A4 := Aside0.mk A40
    clear A40
    obtain ⟨Ao5, co5, eo5⟩ := Kd.R_slice HO_0.out
    subst eo5
    go_wp2_with (first | ((with_reducible refine gate_callee (f := 48) rfl ?_); refine goesL_ (some 15) rfl rfl Try.func48 (by kernel_rfl) rfl #[.int .i64 x1_1] rfl mA ?_; (with_reducible refine (laws_markText.calls k1 x1_1 t379 _ A4.out).mono ?_); rintro e w6 ⟨rfl, hb⟩; refine ⟨_, rfl, ?_⟩; replace HO_0 := Aside0.mk (Kd.R_below (by (with_reducible repeat (first|apply rA|apply rN|apply rD)); exact HO_0.out) hb); replace HK := Aside0.mk (Kept.below (S := (fun k_ => P0_ k_)) (by repeat (first|(with_reducible first|exact HK.out | apply Kept.alloc | apply Kept.drewN | apply Kept.drew) | exact HK.out)) hb); replace HB := Aside0.mk (below_step hB hb); (try clear hb); (try clear hb2); (try clear hk); (try clear hi); refine halt_ ?_; intro q_ hq_))
    obtain ⟨rfl⟩ := hq_
    obtain ⟨c7, H⟩ := if_som H
    have c7b0 : decide (0 ≤ x5_1) = true := decide_eq_true c7
    clear c7
    obtain ⟨y380, hy380⟩ : ∃ y_ : List (S90), y_ = (x0_1.set (x5_1 : Int).toNat (⟨t379, (rd_T90 x0_1 x5_1).f1, (rd_T90 x0_1 x5_1).f2, (rd_T90 x0_1 x5_1).f3⟩ : S90)) := ⟨_, rfl⟩
    replace H : ((laws_markText.f k1 (wrap64 (x1_1 + 1))).bind fun t381 => ((some (y380.set (x5_1 : Int).toNat (⟨(rd_T90 y380 x5_1).f0, t381, (rd_T90 y380 x5_1).f2, (rd_T90 y380 x5_1).f3⟩ : S90) : List (S90))).bind fun y382 => ((laws_markText.f k1 (wrap64 ((wrap64 (x1_1 + 1)) + 1))).bind fun t383 => ((some (y382.set (x5_1 : Int).toNat (⟨(rd_T90 y382 x5_1).f0, (rd_T90 y382 x5_1).f1, t383, (rd_T90 y382 x5_1).f3⟩ : S90) : List (S90))).bind fun y384 => ((laws_markText.f k1 (wrap64 ((wrap64 ((wrap64 (x1_1 + 1)) + 1)) + 1))).bind fun t385 => (laws_markAttrS.l0 k1 (y384.set (x5_1 : Int).toNat (⟨(rd_T90 y384 x5_1).f0, (rd_T90 y384 x5_1).f1, (rd_T90 y384 x5_1).f2, t385⟩ : S90)) (wrap64 ((wrap64 ((wrap64 ((wrap64 (x1_1 + 1)) + 1)) + 1)) + 1)) (wrap64 (x5_1 + 1)))))))) = some (r1, r2) := by first | (rw [hy380]; with_reducible exact H) | (have H2_ := (Option.bind_some _ _).symm.trans H; rw [hy380]; with_reducible exact H2_) | (have H2_ := (Option.bind_some _ _).symm.trans H; with_reducible exact H2_) | with_reducible exact H | (rw [hy380]; exact H) | exact H
    have Ny380 := Aside0.mk hy380
    clear hy380
    replace H := Option.bind_eq_some_iff.mp H
    obtain ⟨t381, A90, H⟩ := H
    try dsimp only at H
    have A9 := Aside0.mk A90
    clear A90
    obtain ⟨y382, hy382⟩ : ∃ y_ : List (S90), y_ = (y380.set (x5_1 : Int).toNat (⟨(rd_T90 y380 x5_1).f0, t381, (rd_T90 y380 x5_1).f2, (rd_T90 y380 x5_1).f3⟩ : S90)) := ⟨_, rfl⟩
    replace H : ((laws_markText.f k1 (wrap64 ((wrap64 (x1_1 + 1)) + 1))).bind fun t383 => ((some (y382.set (x5_1 : Int).toNat (⟨(rd_T90 y382 x5_1).f0, (rd_T90 y382 x5_1).f1, t383, (rd_T90 y382 x5_1).f3⟩ : S90) : List (S90))).bind fun y384 => ((laws_markText.f k1 (wrap64 ((wrap64 ((wrap64 (x1_1 + 1)) + 1)) + 1))).bind fun t385 => (laws_markAttrS.l0 k1 (y384.set (x5_1 : Int).toNat (⟨(rd_T90 y384 x5_1).f0, (rd_T90 y384 x5_1).f1, (rd_T90 y384 x5_1).f2, t385⟩ : S90)) (wrap64 ((wrap64 ((wrap64 ((wrap64 (x1_1 + 1)) + 1)) + 1)) + 1)) (wrap64 (x5_1 + 1)))))) = some (r1, r2) := by first | (rw [hy382]; with_reducible exact H) | (have H2_ := (Option.bind_some _ _).symm.trans H; rw [hy382]; with_reducible exact H2_) | (have H2_ := (Option.bind_some _ _).symm.trans H; with_reducible exact H2_) | with_reducible exact H | (rw [hy382]; exact H) | exact H
    have Ny382 := Aside0.mk hy382
    clear hy382
    replace H := Option.bind_eq_some_iff.mp H
    obtain ⟨t383, A110, H⟩ := H
    try dsimp only at H
    have A11 := Aside0.mk A110
    clear A110
    obtain ⟨y384, hy384⟩ : ∃ y_ : List (S90), y_ = (y382.set (x5_1 : Int).toNat (⟨(rd_T90 y382 x5_1).f0, (rd_T90 y382 x5_1).f1, t383, (rd_T90 y382 x5_1).f3⟩ : S90)) := ⟨_, rfl⟩
    replace H : ((laws_markText.f k1 (wrap64 ((wrap64 ((wrap64 (x1_1 + 1)) + 1)) + 1))).bind fun t385 => (laws_markAttrS.l0 k1 (y384.set (x5_1 : Int).toNat (⟨(rd_T90 y384 x5_1).f0, (rd_T90 y384 x5_1).f1, (rd_T90 y384 x5_1).f2, t385⟩ : S90)) (wrap64 ((wrap64 ((wrap64 ((wrap64 (x1_1 + 1)) + 1)) + 1)) + 1)) (wrap64 (x5_1 + 1)))) = some (r1, r2) := by first | (rw [hy384]; with_reducible exact H) | (have H2_ := (Option.bind_some _ _).symm.trans H; rw [hy384]; with_reducible exact H2_) | (have H2_ := (Option.bind_some _ _).symm.trans H; with_reducible exact H2_) | with_reducible exact H | (rw [hy384]; exact H) | exact H
    have Ny384 := Aside0.mk hy384
    clear hy384
    replace H := Option.bind_eq_some_iff.mp H
    obtain ⟨t385, A130, H⟩ := H
    try dsimp only at H
    have A13 := Aside0.mk A130
    clear A130
    obtain ⟨y386, hy386⟩ : ∃ y_ : List (S90), y_ = (y384.set (x5_1 : Int).toNat (⟨(rd_T90 y384 x5_1).f0, (rd_T90 y384 x5_1).f1, (rd_T90 y384 x5_1).f2, t385⟩ : S90)) := ⟨_, rfl⟩
    replace H : (laws_markAttrS.l0 k1 y386 (wrap64 ((wrap64 ((wrap64 ((wrap64 (x1_1 + 1)) + 1)) + 1)) + 1)) (wrap64 (x5_1 + 1))) = some (r1, r2) := by first | (rw [hy386]; with_reducible exact H) | (have H2_ := (Option.bind_some _ _).symm.trans H; rw [hy386]; with_reducible exact H2_) | (have H2_ := (Option.bind_some _ _).symm.trans H; with_reducible exact H2_) | with_reducible exact H | (rw [hy386]; exact H) | exact H
    have Ny386 := Aside0.mk hy386
    clear hy386
    have H' := Aside0.mk H
    clear H
    have p8 : 0 ≤ (x5_1 : Int) := odt
    have q8 : (x5_1 : Int) < ((x0_1.length : Int) : Int) := odt
    obtain ⟨go8, co8, eo8, gb8, gl8, cl8, HG8⟩ := Kd.R_form HO_0.out (by omega)
    (first | cases eo8 | (injection eo8 with ea_ en_ ec_; (first | subst ea_ | (injection ea_ with ea_; subst ea_)); subst ec_; clear en_))
    have GB8 := Aside0.mk gb8
    have GG8 := Aside0.mk HG8
    clear gb8 gl8 HG8
    have HMgo8 := Aside0.mk (show (P0_ go8 ∨ w.heap.size ≤ go8) from (HO_0.out.1 _ rfl))
    obtain ⟨ce8, hcl8, hM8, hcc8, hfr8⟩ := Kd.R_elem HO_0.out z90 (x5_1 : Int) p8 q8
    obtain rfl := k90_openM hM8
    have hx8_0 : w6.cell? ⟨go8, (x5_1 : Int).toNat * 4, none⟩ = some (.string ((rd_T90 x0_1 x5_1).f0)) := hcc8 0 _ rfl
    have hx8_1 : w6.cell? ⟨go8, (x5_1 : Int).toNat * 4 + 1, none⟩ = some (.string ((rd_T90 x0_1 x5_1).f1)) := hcc8 1 _ rfl
    have hx8_2 : w6.cell? ⟨go8, (x5_1 : Int).toNat * 4 + 2, none⟩ = some (.string ((rd_T90 x0_1 x5_1).f2)) := hcc8 2 _ rfl
    have hx8_3 : w6.cell? ⟨go8, (x5_1 : Int).toNat * 4 + 3, none⟩ = some (.string ((rd_T90 x0_1 x5_1).f3)) := hcc8 3 _ rfl
    have hf8_0 : w6.frozen? ⟨go8, (x5_1 : Int).toNat * 4, none⟩ = false := hfr8 0
    have hf8_1 : w6.frozen? ⟨go8, (x5_1 : Int).toNat * 4 + 1, none⟩ = false := hfr8 1
    have hf8_2 : w6.frozen? ⟨go8, (x5_1 : Int).toNat * 4 + 2, none⟩ = false := hfr8 2
    have hf8_3 : w6.frozen? ⟨go8, (x5_1 : Int).toNat * 4 + 3, none⟩ = false := hfr8 3
    clear hcl8 hcc8 hfr8 hM8
    replace p8 := eq_true p8
    replace q8 := eq_true q8
    have HX15 := Aside0.mk (show Kd.R k90 90 w6 w0.heap.size (fun k_ => (P0_ k_ ∨ w.heap.size ≤ k_)) (.slice (some ⟨go8, 0, none⟩) x0_1.length co5) x0_1 from (by (with_reducible repeat (first|apply rA|apply rN|apply rD)); exact HO_0.out))
    obtain ⟨ce15, hcl15, hM15, hcc15, hfr15⟩ := Kd.R_elem HX15.out z90 (x5_1 : Int) (odt) (by have h_ : (x5_1 : Int) < ((x0_1.length : Int) : Int) := odt; first | exact h_ | (have e_ := (Kd.R_reads' HO_0.out).1; omega) | simpa using h_)
    obtain rfl := k90_openM hM15
    have HP15 := Kd.R_seg HX15.out (x5_1 : Int) (odt) (by have h_ : (x5_1 : Int) < ((x0_1.length : Int) : Int) := odt; first | exact h_ | (have e_ := (Kd.R_reads' HO_0.out).1; omega) | simpa using h_) (seg := [.string t379]) (j := 0) hcl15 hcc15 (show 1 ≤ 4 from by decide) (x' := (⟨t379, (rd_T90 x0_1 x5_1).f1, (rd_T90 x0_1 x5_1).f2, (rd_T90 x0_1 x5_1).f3⟩ : S90)) (k90_mkM _ _ _ (⟨t379, (rd_T90 x0_1 x5_1).f1, (rd_T90 x0_1 x5_1).f2, (rd_T90 x0_1 x5_1).f3⟩ : S90) ) (fun _ hk => hk)
    have hx15_0 := hcc15 0 _ rfl
    (try simp only [show (k90).sz = 4 from rfl, Nat.mul_one, Nat.add_zero] at hx15_0)
    have hf15_0 := hfr15 0
    (try simp only [show (k90).sz = 4 from rfl, Nat.mul_one, Nat.add_zero] at hf15_0)
    clear hcl15 hcc15 hfr15 hM15
    go_wp2_with (first | ((with_reducible refine gate_store (t := 9) (p := 17) rfl ?_); refine store_event (t := 9) (p := 17) (v := ?vo_w16) (w1 := (w6.setCell ⟨go8, (x5_1 : Int).toNat * 4, none⟩ (.string t379))) ?hg ?ho ?hn ?hr ?_; (case ho => rfl); (case hg => rfl); (case hn => rfl); (case hr => first | (go_simp; done) | (go_simp; rfl)); intro w16 hw; have hg : w6.grownBy w16 (some go8) := (by rw [hw]; exact HP15.2); have hp_ : Kd.R k90 90 w16 w0.heap.size (fun k_ => (P0_ k_ ∨ w.heap.size ≤ k_)) (.slice (some ⟨go8, 0, none⟩) x0_1.length co5) y380 := (by rw [hw, Ny380.out]; exact HP15.1); clear HP15; replace HB := Aside0.mk ((by rw [hw]; exact below_set (HB.out) GB8.out : Below w0.heap.size w0 w16)); replace HK := Aside0.mk (Kept.of_grown (S := (fun k_ => P0_ k_)) hg (by repeat (first|(with_reducible first|exact HK.out | apply Kept.alloc | apply Kept.drewN | apply Kept.drew) | exact HK.out)) (fun k_ e_ => (HO_0.out.1 k_ e_))); replace HO_0 := Aside0.mk (hp_); clear hg hw hp_) | ((with_reducible refine gate_callee (f := 48) rfl ?_); refine goesL_ (some 23) rfl rfl Try.func48 (by kernel_rfl) rfl #[.int .i64 (wrap64 (x1_1 + 1))] rfl mA ?_; (with_reducible refine (laws_markText.calls k1 (wrap64 (x1_1 + 1)) t381 _ A9.out).mono ?_); rintro e w17 ⟨rfl, hb⟩; refine ⟨_, rfl, ?_⟩; replace HO_0 := Aside0.mk (Kd.R_below (by (with_reducible repeat (first|apply rA|apply rN|apply rD)); exact HO_0.out) hb); replace HK := Aside0.mk (Kept.below (S := (fun k_ => P0_ k_)) (by repeat (first|(with_reducible first|exact HK.out | apply Kept.alloc | apply Kept.drewN | apply Kept.drew) | exact HK.out)) hb); replace HB := Aside0.mk (below_step hB hb); (try clear hb); (try clear hb2); (try clear hk); (try clear hi); have p10 : 0 ≤ (x5_1 : Int) := odt; have q10 : (x5_1 : Int) < ((x0_1.length : Int) : Int) := odt; obtain ⟨ce10, hcl10, hM10, hcc10, hfr10⟩ := Kd.R_elem HO_0.out z90 (x5_1 : Int) p10 q10; obtain rfl := k90_openM hM10; have hx10_0 : w17.cell? ⟨go8, (x5_1 : Int).toNat * 4, none⟩ = some (.string ((rd_T90 y380 x5_1).f0)) := hcc10 0 _ rfl; have hx10_1 : w17.cell? ⟨go8, (x5_1 : Int).toNat * 4 + 1, none⟩ = some (.string ((rd_T90 y380 x5_1).f1)) := hcc10 1 _ rfl; have hx10_2 : w17.cell? ⟨go8, (x5_1 : Int).toNat * 4 + 2, none⟩ = some (.string ((rd_T90 y380 x5_1).f2)) := hcc10 2 _ rfl; have hx10_3 : w17.cell? ⟨go8, (x5_1 : Int).toNat * 4 + 3, none⟩ = some (.string ((rd_T90 y380 x5_1).f3)) := hcc10 3 _ rfl; have hf10_0 : w17.frozen? ⟨go8, (x5_1 : Int).toNat * 4, none⟩ = false := hfr10 0; have hf10_1 : w17.frozen? ⟨go8, (x5_1 : Int).toNat * 4 + 1, none⟩ = false := hfr10 1; have hf10_2 : w17.frozen? ⟨go8, (x5_1 : Int).toNat * 4 + 2, none⟩ = false := hfr10 2; have hf10_3 : w17.frozen? ⟨go8, (x5_1 : Int).toNat * 4 + 3, none⟩ = false := hfr10 3; clear hcl10 hcc10 hfr10 hM10; replace p10 := eq_true p10; replace q10 := eq_true q10; have HX18 := Aside0.mk (show Kd.R k90 90 w17 w0.heap.size (fun k_ => (P0_ k_ ∨ w.heap.size ≤ k_)) (.slice (some ⟨go8, 0, none⟩) x0_1.length co5) y380 from (by (with_reducible repeat (first|apply rA|apply rN|apply rD)); exact HO_0.out)); obtain ⟨ce18, hcl18, hM18, hcc18, hfr18⟩ := Kd.R_elem HX18.out z90 (x5_1 : Int) (odt) (by have h_ : (x5_1 : Int) < ((x0_1.length : Int) : Int) := odt; first | exact h_ | (have e_ := (Kd.R_reads' HO_0.out).1; omega) | simpa using h_); obtain rfl := k90_openM hM18; have HP18 := Kd.R_seg HX18.out (x5_1 : Int) (odt) (by have h_ : (x5_1 : Int) < ((x0_1.length : Int) : Int) := odt; first | exact h_ | (have e_ := (Kd.R_reads' HO_0.out).1; omega) | simpa using h_) (seg := [.string t381]) (j := 1) hcl18 hcc18 (show 2 ≤ 4 from by decide) (x' := (⟨(rd_T90 y380 x5_1).f0, t381, (rd_T90 y380 x5_1).f2, (rd_T90 y380 x5_1).f3⟩ : S90)) (k90_mkM _ _ _ (⟨(rd_T90 y380 x5_1).f0, t381, (rd_T90 y380 x5_1).f2, (rd_T90 y380 x5_1).f3⟩ : S90) ) (fun _ hk => hk); have hx18_1 := hcc18 1 _ rfl; (try simp only [show (k90).sz = 4 from rfl, Nat.mul_one, Nat.add_zero] at hx18_1); have hf18_1 := hfr18 1; (try simp only [show (k90).sz = 4 from rfl, Nat.mul_one, Nat.add_zero] at hf18_1); clear hcl18 hcc18 hfr18 hM18) | ((with_reducible refine gate_store (t := 9) (p := 25) rfl ?_); refine store_event (t := 9) (p := 25) (v := ?vo_w19) (w1 := (w17.setCell ⟨go8, (x5_1 : Int).toNat * 4 + 1, none⟩ (.string t381))) ?hg ?ho ?hn ?hr ?_; (case ho => rfl); (case hg => rfl); (case hn => rfl); (case hr => first | (go_simp; done) | (go_simp; rfl)); intro w19 hw; have hg : w17.grownBy w19 (some go8) := (by rw [hw]; exact HP18.2); have hp_ : Kd.R k90 90 w19 w0.heap.size (fun k_ => (P0_ k_ ∨ w.heap.size ≤ k_)) (.slice (some ⟨go8, 0, none⟩) x0_1.length co5) y382 := (by rw [hw, Ny382.out]; exact HP18.1); clear HP18; replace HB := Aside0.mk ((by rw [hw]; exact below_set (HB.out) GB8.out : Below w0.heap.size w0 w19)); replace HK := Aside0.mk (Kept.of_grown (S := (fun k_ => P0_ k_)) hg (by repeat (first|(with_reducible first|exact HK.out | apply Kept.alloc | apply Kept.drewN | apply Kept.drew) | exact HK.out)) (fun k_ e_ => (HO_0.out.1 k_ e_))); replace HO_0 := Aside0.mk (hp_); clear hg hw hp_) | ((with_reducible refine gate_callee (f := 48) rfl ?_); refine goesL_ (some 31) rfl rfl Try.func48 (by kernel_rfl) rfl #[.int .i64 (wrap64 ((wrap64 (x1_1 + 1)) + 1))] rfl mA ?_; (with_reducible refine (laws_markText.calls k1 (wrap64 ((wrap64 (x1_1 + 1)) + 1)) t383 _ A11.out).mono ?_); rintro e w20 ⟨rfl, hb⟩; refine ⟨_, rfl, ?_⟩; replace HO_0 := Aside0.mk (Kd.R_below (by (with_reducible repeat (first|apply rA|apply rN|apply rD)); exact HO_0.out) hb); replace HK := Aside0.mk (Kept.below (S := (fun k_ => P0_ k_)) (by repeat (first|(with_reducible first|exact HK.out | apply Kept.alloc | apply Kept.drewN | apply Kept.drew) | exact HK.out)) hb); replace HB := Aside0.mk (below_step hB hb); (try clear hb); (try clear hb2); (try clear hk); (try clear hi); have p12 : 0 ≤ (x5_1 : Int) := odt; have q12 : (x5_1 : Int) < ((x0_1.length : Int) : Int) := odt; obtain ⟨ce12, hcl12, hM12, hcc12, hfr12⟩ := Kd.R_elem HO_0.out z90 (x5_1 : Int) p12 q12; obtain rfl := k90_openM hM12; have hx12_0 : w20.cell? ⟨go8, (x5_1 : Int).toNat * 4, none⟩ = some (.string ((rd_T90 y382 x5_1).f0)) := hcc12 0 _ rfl; have hx12_1 : w20.cell? ⟨go8, (x5_1 : Int).toNat * 4 + 1, none⟩ = some (.string ((rd_T90 y382 x5_1).f1)) := hcc12 1 _ rfl; have hx12_2 : w20.cell? ⟨go8, (x5_1 : Int).toNat * 4 + 2, none⟩ = some (.string ((rd_T90 y382 x5_1).f2)) := hcc12 2 _ rfl; have hx12_3 : w20.cell? ⟨go8, (x5_1 : Int).toNat * 4 + 3, none⟩ = some (.string ((rd_T90 y382 x5_1).f3)) := hcc12 3 _ rfl; have hf12_0 : w20.frozen? ⟨go8, (x5_1 : Int).toNat * 4, none⟩ = false := hfr12 0; have hf12_1 : w20.frozen? ⟨go8, (x5_1 : Int).toNat * 4 + 1, none⟩ = false := hfr12 1; have hf12_2 : w20.frozen? ⟨go8, (x5_1 : Int).toNat * 4 + 2, none⟩ = false := hfr12 2; have hf12_3 : w20.frozen? ⟨go8, (x5_1 : Int).toNat * 4 + 3, none⟩ = false := hfr12 3; clear hcl12 hcc12 hfr12 hM12; replace p12 := eq_true p12; replace q12 := eq_true q12; have HX21 := Aside0.mk (show Kd.R k90 90 w20 w0.heap.size (fun k_ => (P0_ k_ ∨ w.heap.size ≤ k_)) (.slice (some ⟨go8, 0, none⟩) x0_1.length co5) y382 from (by (with_reducible repeat (first|apply rA|apply rN|apply rD)); exact HO_0.out)); obtain ⟨ce21, hcl21, hM21, hcc21, hfr21⟩ := Kd.R_elem HX21.out z90 (x5_1 : Int) (odt) (by have h_ : (x5_1 : Int) < ((x0_1.length : Int) : Int) := odt; first | exact h_ | (have e_ := (Kd.R_reads' HO_0.out).1; omega) | simpa using h_); obtain rfl := k90_openM hM21; have HP21 := Kd.R_seg HX21.out (x5_1 : Int) (odt) (by have h_ : (x5_1 : Int) < ((x0_1.length : Int) : Int) := odt; first | exact h_ | (have e_ := (Kd.R_reads' HO_0.out).1; omega) | simpa using h_) (seg := [.string t383]) (j := 2) hcl21 hcc21 (show 3 ≤ 4 from by decide) (x' := (⟨(rd_T90 y382 x5_1).f0, (rd_T90 y382 x5_1).f1, t383, (rd_T90 y382 x5_1).f3⟩ : S90)) (k90_mkM _ _ _ (⟨(rd_T90 y382 x5_1).f0, (rd_T90 y382 x5_1).f1, t383, (rd_T90 y382 x5_1).f3⟩ : S90) ) (fun _ hk => hk); have hx21_2 := hcc21 2 _ rfl; (try simp only [show (k90).sz = 4 from rfl, Nat.mul_one, Nat.add_zero] at hx21_2); have hf21_2 := hfr21 2; (try simp only [show (k90).sz = 4 from rfl, Nat.mul_one, Nat.add_zero] at hf21_2); clear hcl21 hcc21 hfr21 hM21) | ((with_reducible refine gate_store (t := 9) (p := 33) rfl ?_); refine store_event (t := 9) (p := 33) (v := ?vo_w22) (w1 := (w20.setCell ⟨go8, (x5_1 : Int).toNat * 4 + 2, none⟩ (.string t383))) ?hg ?ho ?hn ?hr ?_; (case ho => rfl); (case hg => rfl); (case hn => rfl); (case hr => first | (go_simp; done) | (go_simp; rfl)); intro w22 hw; have hg : w20.grownBy w22 (some go8) := (by rw [hw]; exact HP21.2); have hp_ : Kd.R k90 90 w22 w0.heap.size (fun k_ => (P0_ k_ ∨ w.heap.size ≤ k_)) (.slice (some ⟨go8, 0, none⟩) x0_1.length co5) y384 := (by rw [hw, Ny384.out]; exact HP21.1); clear HP21; replace HB := Aside0.mk ((by rw [hw]; exact below_set (HB.out) GB8.out : Below w0.heap.size w0 w22)); replace HK := Aside0.mk (Kept.of_grown (S := (fun k_ => P0_ k_)) hg (by repeat (first|(with_reducible first|exact HK.out | apply Kept.alloc | apply Kept.drewN | apply Kept.drew) | exact HK.out)) (fun k_ e_ => (HO_0.out.1 k_ e_))); replace HO_0 := Aside0.mk (hp_); clear hg hw hp_) | ((with_reducible refine gate_callee (f := 48) rfl ?_); refine goesL_ (some 39) rfl rfl Try.func48 (by kernel_rfl) rfl #[.int .i64 (wrap64 ((wrap64 ((wrap64 (x1_1 + 1)) + 1)) + 1))] rfl mA ?_; (with_reducible refine (laws_markText.calls k1 (wrap64 ((wrap64 ((wrap64 (x1_1 + 1)) + 1)) + 1)) t385 _ A13.out).mono ?_); rintro e w23 ⟨rfl, hb⟩; refine ⟨_, rfl, ?_⟩; replace HO_0 := Aside0.mk (Kd.R_below (by (with_reducible repeat (first|apply rA|apply rN|apply rD)); exact HO_0.out) hb); replace HK := Aside0.mk (Kept.below (S := (fun k_ => P0_ k_)) (by repeat (first|(with_reducible first|exact HK.out | apply Kept.alloc | apply Kept.drewN | apply Kept.drew) | exact HK.out)) hb); replace HB := Aside0.mk (below_step hB hb); (try clear hb); (try clear hb2); (try clear hk); (try clear hi); have p14 : 0 ≤ (x5_1 : Int) := odt; have q14 : (x5_1 : Int) < ((x0_1.length : Int) : Int) := odt; obtain ⟨ce14, hcl14, hM14, hcc14, hfr14⟩ := Kd.R_elem HO_0.out z90 (x5_1 : Int) p14 q14; obtain rfl := k90_openM hM14; have hx14_0 : w23.cell? ⟨go8, (x5_1 : Int).toNat * 4, none⟩ = some (.string ((rd_T90 y384 x5_1).f0)) := hcc14 0 _ rfl; have hx14_1 : w23.cell? ⟨go8, (x5_1 : Int).toNat * 4 + 1, none⟩ = some (.string ((rd_T90 y384 x5_1).f1)) := hcc14 1 _ rfl; have hx14_2 : w23.cell? ⟨go8, (x5_1 : Int).toNat * 4 + 2, none⟩ = some (.string ((rd_T90 y384 x5_1).f2)) := hcc14 2 _ rfl; have hx14_3 : w23.cell? ⟨go8, (x5_1 : Int).toNat * 4 + 3, none⟩ = some (.string ((rd_T90 y384 x5_1).f3)) := hcc14 3 _ rfl; have hf14_0 : w23.frozen? ⟨go8, (x5_1 : Int).toNat * 4, none⟩ = false := hfr14 0; have hf14_1 : w23.frozen? ⟨go8, (x5_1 : Int).toNat * 4 + 1, none⟩ = false := hfr14 1; have hf14_2 : w23.frozen? ⟨go8, (x5_1 : Int).toNat * 4 + 2, none⟩ = false := hfr14 2; have hf14_3 : w23.frozen? ⟨go8, (x5_1 : Int).toNat * 4 + 3, none⟩ = false := hfr14 3; clear hcl14 hcc14 hfr14 hM14; replace p14 := eq_true p14; replace q14 := eq_true q14; have HX24 := Aside0.mk (show Kd.R k90 90 w23 w0.heap.size (fun k_ => (P0_ k_ ∨ w.heap.size ≤ k_)) (.slice (some ⟨go8, 0, none⟩) x0_1.length co5) y384 from (by (with_reducible repeat (first|apply rA|apply rN|apply rD)); exact HO_0.out)); obtain ⟨ce24, hcl24, hM24, hcc24, hfr24⟩ := Kd.R_elem HX24.out z90 (x5_1 : Int) (odt) (by have h_ : (x5_1 : Int) < ((x0_1.length : Int) : Int) := odt; first | exact h_ | (have e_ := (Kd.R_reads' HO_0.out).1; omega) | simpa using h_); obtain rfl := k90_openM hM24; have HP24 := Kd.R_seg HX24.out (x5_1 : Int) (odt) (by have h_ : (x5_1 : Int) < ((x0_1.length : Int) : Int) := odt; first | exact h_ | (have e_ := (Kd.R_reads' HO_0.out).1; omega) | simpa using h_) (seg := [.string t385]) (j := 3) hcl24 hcc24 (show 4 ≤ 4 from by decide) (x' := (⟨(rd_T90 y384 x5_1).f0, (rd_T90 y384 x5_1).f1, (rd_T90 y384 x5_1).f2, t385⟩ : S90)) (k90_mkM _ _ _ (⟨(rd_T90 y384 x5_1).f0, (rd_T90 y384 x5_1).f1, (rd_T90 y384 x5_1).f2, t385⟩ : S90) ) (fun _ hk => hk); have hx24_3 := hcc24 3 _ rfl; (try simp only [show (k90).sz = 4 from rfl, Nat.mul_one, Nat.add_zero] at hx24_3); have hf24_3 := hfr24 3; (try simp only [show (k90).sz = 4 from rfl, Nat.mul_one, Nat.add_zero] at hf24_3); clear hcl24 hcc24 hfr24 hM24) | ((with_reducible refine gate_store (t := 9) (p := 41) rfl ?_); refine store_event (t := 9) (p := 41) (v := ?vo_w25) (w1 := (w23.setCell ⟨go8, (x5_1 : Int).toNat * 4 + 3, none⟩ (.string t385))) ?hg ?ho ?hn ?hr ?_; (case ho => rfl); (case hg => rfl); (case hn => rfl); (case hr => first | (go_simp; done) | (go_simp; rfl)); intro w25 hw; have hg : w23.grownBy w25 (some go8) := (by rw [hw]; exact HP24.2); have hp_ : Kd.R k90 90 w25 w0.heap.size (fun k_ => (P0_ k_ ∨ w.heap.size ≤ k_)) (.slice (some ⟨go8, 0, none⟩) x0_1.length co5) y386 := (by rw [hw, Ny386.out]; exact HP24.1); clear HP24; replace HB := Aside0.mk ((by rw [hw]; exact below_set (HB.out) GB8.out : Below w0.heap.size w0 w25)); replace HK := Aside0.mk (Kept.of_grown (S := (fun k_ => P0_ k_)) hg (by repeat (first|(with_reducible first|exact HK.out | apply Kept.alloc | apply Kept.drewN | apply Kept.drew) | exact HK.out)) (fun k_ e_ => (HO_0.out.1 k_ e_))); replace HO_0 := Aside0.mk (hp_); clear hg hw hp_))
    go_roundg k1
    case measure => have := HK1.out; omega
    case rel => exact ⟨(y386), (wrap64 ((wrap64 ((wrap64 ((wrap64 (x1_1 + 1)) + 1)) + 1)) + 1)), (wrap64 (x5_1 + 1)), rG, rG, H', ⟨by have := HK1.out; omega⟩, ⟨by (with_reducible repeat (first|apply rA|apply rN|apply rD)); exact HO_0.out⟩, ⟨by repeat (first|(with_reducible first|exact HK.out | apply Kept.alloc | apply Kept.drewN | apply Kept.drew) | exact HK.out)⟩, ⟨hB⟩⟩
   ·rw [if_neg c3] at H
    have c3b0 : decide (x5_1 < (x0_1.length : Int)) = false := decide_eq_false c3
    clear c3
    simp only [Option.some.injEq, Prod.mk.injEq] at H
    obtain ⟨rfl, rfl⟩ := H
    obtain ⟨Ao26, co26, eo26⟩ := Kd.R_slice HO_0.out
    subst eo26
    go_wp2
    go_ret
    exact ⟨rE, by (with_reducible repeat (first|apply rA|apply rN|apply rD)); exact HO_0.out, hB, by repeat (first|(with_reducible first|exact HK.out | apply Kept.alloc | apply Kept.drewN | apply Kept.drew) | exact HK.out)⟩

/-! ### laws_markNodeS: function 22 -/
def laws_markNodeS.node (G : List S34 → Int → Option (Int × List S34)) (k : Nat) (x : S34) (a : Int) : Option (Int × S34) :=
  (laws_markText.f k (wrap64 (a + 1))).bind fun t1 => (laws_markText.f k (wrap64 ((wrap64 (a + 1)) + 1))).bind fun t2 => (laws_markText.f k (wrap64 ((wrap64 ((wrap64 (a + 1)) + 1)) + 1))).bind fun t3 => (laws_markDeclS.f k x.f4 (wrap64 ((wrap64 ((wrap64 ((wrap64 (a + 1)) + 1)) + 1)) + 1))).bind fun d => (laws_markAttrS.f k x.f5 d.1).bind fun t => (G x.f6 t.1).bind fun c => (laws_markText.f k c.1).bind fun t7 => some (wrap64 (c.1 + 1), ⟨a, t1, t2, t3, d.2, t.2, c.2, t7⟩)
def laws_markNodeS.go (G : List S34 → Int → Option (Int × List S34)) (k : Nat) : List S34 → Int → Option (Int × List S34)
  | [], a => some (a, [])
  | x :: xs, a => (laws_markNodeS.node G k x a).bind fun p => (laws_markNodeS.go G k xs p.1).bind fun q => some (q.1, p.2 :: q.2)
def laws_markNodeS.f : Nat → List S34 → Int → Option (Int × List S34)
  | 0, _, _ => none
  | k + 1, xs, a => if xs.length < 4611686018427387904 then laws_markNodeS.go (laws_markNodeS.f k) k xs a else none
set_option maxRecDepth 100000 in
set_option maxHeartbeats 4000000 in
theorem laws_markNodeS.calls (k : Nat) : ∀ (P : Nat → Prop) (u : Value) (l0 : List S34) (a1 r1 : Int) (r2 : List S34) (w0 w : World) (hB : Below w0.heap.size w0 w) (ho : Kd.S kD 34 w w0.heap.size P u l0) (h : laws_markNodeS.f k l0 a1 = some (r1, r2)),
    Calls Try.prog 22 #[u, .int .i64 a1] w fun e w' => e = .returned (.int .i64 r1) ∧ Kd.S kD 34 w' w0.heap.size P u r2 ∧ Below w0.heap.size w0 w' ∧ Kept w w' P := by
  induction k with
  | zero => intro P u l0 a1 r1 r2 w0 w hB ho h; exact absurd h (by simp [laws_markNodeS.f])
  | succ k ih =>
  intro P u l0 a1 r1 r2 w0 w hB ho h
  simp only [laws_markNodeS.f] at h
  obtain ⟨hz, h⟩ := if_som h
  have IH := Aside0.mk ih
  obtain ⟨A, c, rfl, -, -⟩ := Kd.S_reads ho
  have HS := Aside0.mk ho
  have HB := Aside0.mk hB
  have HH := Aside0.mk h
  clear ih hB ho h
  go_enter Try.func22, Try.ntmps22
  go_wp2
  go_loopg [1, 5] l0.length (fun gg s1 s5 wr => ∃ (ys zs : List S34) (a : Int) (q : List S34), ys.length + zs.length = l0.length ∧ zs.length ≤ gg ∧ s1 = .int .i64 a ∧ s5 = .int .i64 (ys.length : Int) ∧ Aside0 (laws_markNodeS.go (laws_markNodeS.f k) k zs a = some (r1, q)) ∧ Aside0 (r2 = ys ++ q) ∧ Aside0 (Kd.S kD 34 wr w0.heap.size P (.slice A l0.length c) (ys ++ zs)) ∧ Aside0 (Below w0.heap.size w0 wr) ∧ Aside0 (Kept w wr P))
  case atStart => exact ⟨[], l0, a1, r2, by simp, Nat.le_refl _, rfl, rfl, HH, ⟨rfl⟩, ⟨HS.out⟩, ⟨HB.out⟩, ⟨Kept.refl _ _⟩⟩
  case round =>
    clear HH HS HB
    obtain ⟨ys, zs, a, q, hlen, hg, rfl, rfl, HH, HQ, HS, HB, HK⟩ := hrel
    cases zs with
    | nil =>
      have hlt : ¬ (ys.length : Int) < (l0.length : Int) := by simp at hlen; omega
      obtain ⟨rfl, rfl⟩ : a = r1 ∧ q = [] := by have := HH.out; simp only [laws_markNodeS.go, Option.some.injEq, Prod.mk.injEq] at this; exact ⟨this.1, this.2.symm⟩
      rw [List.append_nil] at HS HQ
      obtain rfl := HQ.out
      go_wp2
      go_ret
      exact ⟨rfl, HS.out, HB.out, HK.out⟩
    | cons x zs =>
      rw [List.length_cons] at hlen hg
      have hlt : (ys.length : Int) < (l0.length : Int) := by omega
      have hl0 : (0 : Int) ≤ (ys.length : Int) := by omega
      have HL := Aside0.mk (show ys.length < l0.length by omega)
      obtain ⟨f0, f1, f2, f3, f4, f5, f6, f7⟩ := x
      obtain ⟨p, hp1, h2⟩ := Option.bind_eq_some_iff.1 (show (laws_markNodeS.node (laws_markNodeS.f k) k ⟨f0, f1, f2, f3, f4, f5, f6, f7⟩ a).bind _ = some (r1, q) from HH.out)
      obtain ⟨q', hq, h3⟩ := Option.bind_eq_some_iff.1 h2
      simp only [Option.some.injEq, Prod.mk.injEq] at h3
      obtain ⟨h31, rfl⟩ := h3
      obtain ⟨t1, ht1, hp2⟩ := Option.bind_eq_some_iff.1 hp1
      obtain ⟨t2, ht2, hp3⟩ := Option.bind_eq_some_iff.1 hp2
      obtain ⟨t3, ht3, hp4⟩ := Option.bind_eq_some_iff.1 hp3
      obtain ⟨⟨d1, d2⟩, hd, hp5⟩ := Option.bind_eq_some_iff.1 hp4
      obtain ⟨⟨e1, e2⟩, ht, hp6⟩ := Option.bind_eq_some_iff.1 hp5
      obtain ⟨⟨c1, c2⟩, hcc, hp7⟩ := Option.bind_eq_some_iff.1 hp6
      obtain ⟨t7, ht7, hp8⟩ := Option.bind_eq_some_iff.1 hp7
      clear hp1 hp2 hp3 hp4 hp5 hp6 hp7
      cases hp8
      have T1 := Aside0.mk ht1
      have T2 := Aside0.mk ht2
      have T3 := Aside0.mk ht3
      have T7 := Aside0.mk ht7
      have TD := Aside0.mk hd
      have TT := Aside0.mk ht
      have TC := Aside0.mk hcc
      have HR := Aside0.mk (show laws_markNodeS.go (laws_markNodeS.f k) k zs (wrap64 (c1 + 1)) = some (r1, q'.2) by rw [← h31]; exact hq)
      clear HH h2 hq h31 ht1 ht2 ht3 ht7 hd ht hcc
      obtain ⟨g, cap, eg, hg0, -, -⟩ := Kd.S_form HS.out (by simp; omega)
      injection eg with eA eN eC
      subst eA
      have HG := Aside0.mk hg0
      have HP0 := Aside0.mk ((Kd.S_R HS.out).1 g rfl)
      have HLEN := Aside0.mk (And.intro hlen hg)
      clear hg0 eC eN hlen hg
      obtain ⟨oki, v4, v5, v6, o6, hc, hf, hD, hk, hH⟩ := kD_elem HS.out
      have hx := hc 0 _ rfl
      have hy := hf 0
      have HP := Aside0.mk (kD_put hH hD hk HL.out 0 (.int .i64 a) rfl (by decide) ⟨a, f1, f2, f3, f4, f5, f6, f7⟩ rfl rfl rfl rfl)
      rw [Nat.add_zero] at hx hy HP
      clear hc hf hD hk hH
      go_wp2_with (first
        | ((with_reducible refine gate_store (t := 3) (p := 16) rfl ?_); refine store_event (t := 3) (p := 16) (v := ?vo_wr) (w1 := (wr.setCell ⟨g, ys.length * 8, none⟩ (.int .i64 a))) ?hg ?ho ?hn ?hr ?_; (case ho => rfl); (case hg => rfl); (case hn => rfl); (case hr => first | (go_simp; done) | (go_simp; rfl)); intro wrx hw; replace HS := Aside0.mk (show Kd.S kD 34 wrx _ _ _ _ by rw [hw]; exact HP.out.1); replace HB := Aside0.mk (show Below w0.heap.size w0 wrx by rw [hw]; exact below_set HB.out HG.out); replace HK := Aside0.mk (Kept.of_grown (show wr.grownBy wrx (some g) by rw [hw]; exact HP.out.2) HK.out (fun k_ e_ => .inl (by injection e_ with e_; exact e_ ▸ HP0.out))); clear HP hx hy hw)
        | (go_at_call 48; (with_reducible refine (laws_markText.calls k (wrap64 (a + 1)) t1 _ T1.out).mono ?_); rintro e wb ⟨rfl, hb⟩; replace HS := Aside0.mk (Kd.S_below HS.out hb); replace HK := Aside0.mk (Kept.below HK.out hb); replace HB := Aside0.mk (below_step HB.out hb); clear hb; obtain ⟨oki, v4, v5, v6, o6, hc, hf, hD, hk, hH⟩ := kD_elem HS.out; have hx := hc 1 _ rfl; have hy := hf 1; have HP := Aside0.mk (kD_put hH hD hk HL.out 1 (.string t1) rfl (by decide) ⟨a, t1, f2, f3, f4, f5, f6, f7⟩ rfl rfl rfl rfl); clear hc hf hD hk hH)
        | ((with_reducible refine gate_store (t := 9) (p := 24) rfl ?_); refine store_event (t := 9) (p := 24) (v := ?vo_wb) (w1 := (wb.setCell ⟨g, ys.length * 8 + 1, none⟩ (.string t1))) ?hg ?ho ?hn ?hr ?_; (case ho => rfl); (case hg => rfl); (case hn => rfl); (case hr => first | (go_simp; done) | (go_simp; rfl)); intro wbx hw; replace HS := Aside0.mk (show Kd.S kD 34 wbx _ _ _ _ by rw [hw]; exact HP.out.1); replace HB := Aside0.mk (show Below w0.heap.size w0 wbx by rw [hw]; exact below_set HB.out HG.out); replace HK := Aside0.mk (Kept.of_grown (show wb.grownBy wbx (some g) by rw [hw]; exact HP.out.2) HK.out (fun k_ e_ => .inl (by injection e_ with e_; exact e_ ▸ HP0.out))); clear HP hx hy hw)
        | (go_at_call 48; (with_reducible refine (laws_markText.calls k (wrap64 ((wrap64 (a + 1)) + 1)) t2 _ T2.out).mono ?_); rintro e wc ⟨rfl, hb⟩; replace HS := Aside0.mk (Kd.S_below HS.out hb); replace HK := Aside0.mk (Kept.below HK.out hb); replace HB := Aside0.mk (below_step HB.out hb); clear hb; obtain ⟨oki, v4, v5, v6, o6, hc, hf, hD, hk, hH⟩ := kD_elem HS.out; have hx := hc 2 _ rfl; have hy := hf 2; have HP := Aside0.mk (kD_put hH hD hk HL.out 2 (.string t2) rfl (by decide) ⟨a, t1, t2, f3, f4, f5, f6, f7⟩ rfl rfl rfl rfl); clear hc hf hD hk hH)
        | ((with_reducible refine gate_store (t := 9) (p := 32) rfl ?_); refine store_event (t := 9) (p := 32) (v := ?vo_wc) (w1 := (wc.setCell ⟨g, ys.length * 8 + 2, none⟩ (.string t2))) ?hg ?ho ?hn ?hr ?_; (case ho => rfl); (case hg => rfl); (case hn => rfl); (case hr => first | (go_simp; done) | (go_simp; rfl)); intro wcx hw; replace HS := Aside0.mk (show Kd.S kD 34 wcx _ _ _ _ by rw [hw]; exact HP.out.1); replace HB := Aside0.mk (show Below w0.heap.size w0 wcx by rw [hw]; exact below_set HB.out HG.out); replace HK := Aside0.mk (Kept.of_grown (show wc.grownBy wcx (some g) by rw [hw]; exact HP.out.2) HK.out (fun k_ e_ => .inl (by injection e_ with e_; exact e_ ▸ HP0.out))); clear HP hx hy hw)
        | (go_at_call 48; (with_reducible refine (laws_markText.calls k (wrap64 ((wrap64 ((wrap64 (a + 1)) + 1)) + 1)) t3 _ T3.out).mono ?_); rintro e wd ⟨rfl, hb⟩; replace HS := Aside0.mk (Kd.S_below HS.out hb); replace HK := Aside0.mk (Kept.below HK.out hb); replace HB := Aside0.mk (below_step HB.out hb); clear hb; obtain ⟨oki, v4, v5, v6, o6, hc, hf, hD, hk, hH⟩ := kD_elem HS.out; have hx := hc 3 _ rfl; have hy := hf 3; have HP := Aside0.mk (kD_put hH hD hk HL.out 3 (.string t3) rfl (by decide) ⟨a, t1, t2, t3, f4, f5, f6, f7⟩ rfl rfl rfl rfl); clear hc hf hD hk hH)
        | ((with_reducible refine gate_store (t := 9) (p := 40) rfl ?_); refine store_event (t := 9) (p := 40) (v := ?vo_wd) (w1 := (wd.setCell ⟨g, ys.length * 8 + 3, none⟩ (.string t3))) ?hg ?ho ?hn ?hr ?_; (case ho => rfl); (case hg => rfl); (case hn => rfl); (case hr => first | (go_simp; done) | (go_simp; rfl)); intro wdx hw; replace HS := Aside0.mk (show Kd.S kD 34 wdx _ _ _ _ by rw [hw]; exact HP.out.1); replace HB := Aside0.mk (show Below w0.heap.size w0 wdx by rw [hw]; exact below_set HB.out HG.out); replace HK := Aside0.mk (Kept.of_grown (show wd.grownBy wdx (some g) by rw [hw]; exact HP.out.2) HK.out (fun k_ e_ => .inl (by injection e_ with e_; exact e_ ▸ HP0.out))); clear HP hx hy hw; obtain ⟨oki, v4, v5, v6, o6, hc, -, hD, hk, hH⟩ := kD_elem HS.out; have hx := hc 4 _ rfl; have HE := Aside0.mk (And.intro hH (And.intro hD hk)); clear hc hD hk hH)
        | (go_at_call 43; (with_reducible refine (laws_markDeclS.calls k (fun k_ => some k_ = v4.ownBlock) v4 f4 (wrap64 ((wrap64 ((wrap64 ((wrap64 (a + 1)) + 1)) + 1)) + 1)) d1 d2 w0 _ HB.out HE.out.2.1.1 TD.out).mono ?_); rintro e wf ⟨rfl, hR, hb, hkp⟩; replace HK := Aside0.mk (Kept.then_ HK.out hkp (fun k_ h_ => .inl (HE.out.2.2 k_ (HE.out.2.1.2.2.2.1 k_ h_)).1)); replace HS := Aside0.mk (kD_in4 HE.out.1 HE.out.2.1 hkp hR); replace HB := Aside0.mk hb; clear hx HE hkp hR hb; obtain ⟨oki, v4, v5, v6, o6, hc, -, hD, hk, hH⟩ := kD_elem HS.out; have hx := hc 5 _ rfl; have HE := Aside0.mk (And.intro hH (And.intro hD hk)); clear hc hD hk hH)
        | (go_at_call 44; (with_reducible refine (laws_markAttrS.calls k (fun k_ => some k_ = v5.ownBlock) v5 f5 d1 e1 e2 w0 _ HB.out HE.out.2.1.2.1 TT.out).mono ?_); rintro e wg ⟨rfl, hR, hb, hkp⟩; replace HK := Aside0.mk (Kept.then_ HK.out hkp (fun k_ h_ => .inl (HE.out.2.2 k_ (HE.out.2.1.2.2.2.2.1 k_ h_)).1)); replace HS := Aside0.mk (kD_in5 HE.out.1 HE.out.2.1 hkp hR); replace HB := Aside0.mk hb; clear hx HE hkp hR hb; obtain ⟨oki, v4, v5, v6, o6, hc, -, hD, hk, hH⟩ := kD_elem HS.out; have hx := hc 6 _ rfl; have HE := Aside0.mk (And.intro hH (And.intro hD hk)); clear hc hD hk hH)
        | (go_at_call 22; (with_reducible refine (IH.out o6 v6 f6 e1 c1 c2 w0 _ HB.out HE.out.2.1.2.2.1 TC.out).mono ?_); rintro e wh ⟨rfl, hR, hb, hkp⟩; replace HK := Aside0.mk (Kept.then_ HK.out hkp (fun k_ h_ => .inl (HE.out.2.2 k_ (HE.out.2.1.2.2.2.2.2 k_ h_).1).1)); replace HS := Aside0.mk (kD_in6 HE.out.1 HE.out.2.1 hkp hR); replace HB := Aside0.mk hb; clear hx HE hkp hR hb)
        | (go_at_call 48; (with_reducible refine (laws_markText.calls k (c1) t7 _ T7.out).mono ?_); rintro e wi ⟨rfl, hb⟩; replace HS := Aside0.mk (Kd.S_below HS.out hb); replace HK := Aside0.mk (Kept.below HK.out hb); replace HB := Aside0.mk (below_step HB.out hb); clear hb; obtain ⟨oki, v4, v5, v6, o6, hc, hf, hD, hk, hH⟩ := kD_elem HS.out; have hx := hc 7 _ rfl; have hy := hf 7; have HP := Aside0.mk (kD_put hH hD hk HL.out 7 (.string t7) rfl (by decide) ⟨a, t1, t2, t3, d2, e2, c2, t7⟩ rfl rfl rfl rfl); clear hc hf hD hk hH)
        | ((with_reducible refine gate_store (t := 9) (p := 69) rfl ?_); refine store_event (t := 9) (p := 69) (v := ?vo_wi) (w1 := (wi.setCell ⟨g, ys.length * 8 + 7, none⟩ (.string t7))) ?hg ?ho ?hn ?hr ?_; (case ho => rfl); (case hg => rfl); (case hn => rfl); (case hr => first | (go_simp; done) | (go_simp; rfl)); intro wix hw; replace HS := Aside0.mk (show Kd.S kD 34 wix _ _ _ _ by rw [hw]; exact HP.out.1); replace HB := Aside0.mk (show Below w0.heap.size w0 wix by rw [hw]; exact below_set HB.out HG.out); replace HK := Aside0.mk (Kept.of_grown (show wi.grownBy wix (some g) by rw [hw]; exact HP.out.2) HK.out (fun k_ e_ => .inl (by injection e_ with e_; exact e_ ▸ HP0.out))); clear HP hx hy hw))
      go_roundg zs.length
      case measure => have := HLEN.out; omega
      case rel => (have hl_ := HLEN.out); exact ⟨ys ++ [⟨a, t1, t2, t3, d2, e2, c2, t7⟩], zs, wrap64 (c1 + 1), q'.2, by simp; omega, Nat.le_refl _, rfl, by rw [List.length_append, List.length_singleton]; go_num, HR, ⟨by rw [HQ.out]; simp⟩, ⟨by rw [List.append_assoc]; exact HS.out⟩, ⟨HB.out⟩, ⟨HK.out⟩⟩

/-! ### laws_heldDeclS: function 49 -/
def laws_heldDeclS.l0 : Nat → List (S88) → Int → Int → Option (Int)
 | 0, _, _, _ => none
 | k + 1, x0, x1, x5 => if x5 < (x0.length : Int) then (if 0 ≤ x5 then ((laws_markText.f k x1).bind fun t388 => (if ((rd_T88 x0 x5).f0).toList = t388.toList then ((laws_markText.f k (wrap64 (x1 + 1))).bind fun t390 => (if ((rd_T88 x0 x5).f1).toList = t390.toList then (laws_heldDeclS.l0 k x0 (wrap64 ((wrap64 (x1 + 1)) + 1)) (wrap64 (x5 + 1))) else (some (-1)))) else (some (-1)))) else (none)) else (some x1)
def laws_heldDeclS.f (k : Nat) (l0 : List (S88)) (a1 : Int) : Option (Int) := laws_heldDeclS.l0 k l0 a1 0
def laws_heldDeclS.T4 : Bool × List (List Nat × List Nat) := (true, [([], []), ([], []), ([0, 1], [0, 1]), ([2], [2]), ([3], [3]), ([], []), ([5], [5]), ([4, 6], [4, 6])])
def laws_heldDeclS.B4 : List Nat := [0, 0, 3, 7, 15, 0, 32, 127]
theorem laws_heldDeclS.tab4 : rtab .any (opsOf Try.f49 4) = laws_heldDeclS.T4 := by kernel_rfl
theorem laws_heldDeclS.bits4 : waitsOk laws_heldDeclS.T4.2 laws_heldDeclS.B4 = true := by kernel_rfl
def laws_heldDeclS.T7 : Bool × List (List Nat × List Nat) := (true, [([], []), ([], []), ([0, 1], [0, 1]), ([2], [2]), ([3], [3]), ([], []), ([5], [5]), ([4, 6], [4, 6])])
def laws_heldDeclS.B7 : List Nat := [0, 0, 3, 7, 15, 0, 32, 127]
theorem laws_heldDeclS.tab7 : rtab .any (opsOf Try.f49 7) = laws_heldDeclS.T7 := by kernel_rfl
theorem laws_heldDeclS.bits7 : waitsOk laws_heldDeclS.T7.2 laws_heldDeclS.B7 = true := by kernel_rfl
theorem laws_heldDeclS.calls (k : Nat) (A0 : Option Addr) (c0 : Nat) (l0 : List (S88)) (a1 : Int) (r : Int) (w : World) (hr0 : Kd.C k88 w A0 l0.length l0) (hc0 : l0.length ≤ c0) (h : laws_heldDeclS.f k l0 a1 = some r) :
  Calls Try.prog 49 #[.slice A0 l0.length c0, .int .i64 a1] w fun e w' => e = .returned (.int .i64 r) ∧ Below w.heap.size w w' := by
 have HR0 := Aside0.mk hr0
 have HC0 := Aside0.mk hc0
 clear hr0 hc0
 have HB := Aside0.mk (Below.refl w.heap.size w)
 have H : (laws_heldDeclS.l0 k l0 a1 0) = some r := h
 clear h
 have H' := Aside0.mk H
 clear H
 go_enter Try.func49, Try.ntmps49
 go_wp2
 go_loopg [1, 5] k (fun kq v1 v5 w' => ∃ (x1_1 : Int) (x5_1 : Int), v1 = .int .i64 x1_1 ∧ v5 = .int .i64 x5_1 ∧ Aside0 (laws_heldDeclS.l0 kq l0 x1_1 x5_1 = some r) ∧ Aside0 (kq ≤ k) ∧ Aside0 (Below w.heap.size w w'))
 case atStart => exact ⟨(a1), (0), rG, rG, H', ⟨Nat.le_refl _⟩, ⟨hB⟩⟩
 case round =>
  clear H'
  obtain ⟨x1_1, x5_1, rfl, rfl, HA, HK1, HB⟩ := hrel
  cases gk with
  | zero => exact absurd HA.out (by simp [laws_heldDeclS.l0])
  | succ k1 =>
   have H := HA.out
   clear HA
   simp only [laws_heldDeclS.l0] at H
   by_cases c3 : x5_1 < (l0.length : Int)
   ·rw [if_pos c3] at H
    have c3b0 : decide (x5_1 < (l0.length : Int)) = true := decide_eq_true c3
    clear c3
    obtain ⟨c4, H⟩ := if_som H
    have c4b0 : decide (0 ≤ x5_1) = true := decide_eq_true c4
    clear c4
    replace H := Option.bind_eq_some_iff.mp H
    obtain ⟨t388, A50, H⟩ := H
    try dsimp only at H
    have A5 := Aside0.mk A50
    clear A50
    try go_wp2
    replace HB := Aside0.mk (below_drew1 HB.out)
    have p387 : 0 ≤ (x5_1 : Int) := odt
    have q387 : x5_1 < (l0.length : Int) := odt
    obtain ⟨ad387, e387, hx387_0, hx387_1⟩ := at_T88 HR0.out x5_1 p387 q387
    have hw387_1 := hx387_1
    have hw387_0 := hx387_0
    cases e387
    replace hx387_0 := pw_cell_below HB.out hx387_0
    replace hx387_1 := pw_cell_below HB.out hx387_1
    replace p387 := eq_true p387
    replace q387 := eq_true q387
    refine start_ (n := 8) (S := fun w' => w'.cell? (ad387.add ((x5_1).toNat * 2)) = some (.string ((rd_T88 l0 x5_1).f0)) ∧ w'.cell? ⟨(ad387.add ((x5_1).toNat * 2)).block, (ad387.add ((x5_1).toNat * 2)).off + 1, none⟩ = some (.string ((rd_T88 l0 x5_1).f1))) (ds := []) #[false, false, false, false, false, false, false, false] (by kernel_rfl) rfl rfl ⟨(pw_cell_below HB.out hw387_0), (pw_cell_below HB.out hw387_1)⟩ (fun hHeld => ?_); refine with_tabW laws_heldDeclS.tab4 laws_heldDeclS.bits4 (fun HT_ HW_ => ?_)
    generalize wr.drew = w6 at HB hx387_0 hx387_1 hHeld ⊢
    refine pU 0 12 (tf 1 7) ?_
    refine pU 1 13 (tf 2 6) ?_
    refine pU 2 14 (tf 3 5) ?_
    refine pU 3 15 (tf 4 4) ?_
    refine pU 5 17 #[true, true, true, true, false, true, false, false] ?_
    refine take_ (i := 4) (N := some 16) (v := ?_) (a' := ?_) (tf 6 2) rfl rfl (take_ofW HT_.out HW_.out (by kernel_rfl)) (fun _ _ _ h => h) (Or.inl ⟨by rfl, ?_⟩) hHeld ?_ ?_
    rotate_left
    ·rintro w' ⟨s0, s1⟩
     go_simp
     with_reducible rfl
    rotate_left
    ·simp only [Act.put, sT, sZ, sS, i64_w, i32_w]
     rfl
    refine one_ (i := 6) (N := some 18) (tf 7 1) rfl rfl (one_of HT_.out (by kernel_rfl)) (by decide) (fun K hK => ?_)
    refine goes_ Try.func48 (by kernel_rfl) rfl #[.int .i64 x1_1] (by rfl) rfl rfl mA ?_
    with_reducible refine (laws_markText.calls k1 x1_1 t388 _ A5.out).mono ?_
    rintro e w7 ⟨rfl, hb⟩
    refine ⟨_, rfl, ?_⟩
    replace HB := Aside0.mk (below_step hB hb)
    (try clear hb)
    (try clear hb2)
    (try clear hk)
    (try clear hi)
    refine hK.out _ _ ⟨(pw_cell_below HB.out hw387_0), (pw_cell_below HB.out hw387_1)⟩ (fun hHeld => ?_)
    clear hK K
    refine norm_ (a' := ?_) ?_ ?_
    rotate_left
    ·show Act.put _ (some 18) _ = _
     simp only [Act.put, sT, sZ, sS, i64_w, i32_w]
     rfl
    refine pU 7 19 (tf 8 0) ?_
    refine done_ (done_of HT_.out (by kernel_rfl)) ?_
    by_cases c8 : ((rd_T88 l0 x5_1).f0).toList = t388.toList
    ·rw [if_pos c8] at H
     obtain ⟨c8b0, c8b1⟩ := eqT c8
     clear c8
     (first | rw [c8b0] | (simp only [i64_w, i32_w]; rw [c8b0]) | skip)
     replace H := Option.bind_eq_some_iff.mp H
     obtain ⟨t390, A90, H⟩ := H
     try dsimp only at H
     have A9 := Aside0.mk A90
     clear A90
     try go_wp2
     replace HB := Aside0.mk (below_drew1 HB.out)
     have p389 : 0 ≤ (x5_1 : Int) := odt
     have q389 : x5_1 < (l0.length : Int) := odt
     obtain ⟨ad389, e389, hx389_0, hx389_1⟩ := at_T88 HR0.out x5_1 p389 q389
     have hw389_1 := hx389_1
     have hw389_0 := hx389_0
     obtain rfl : ad387 = ad389 := (by injection e389)
     replace hx389_0 := pw_cell_below HB.out hx389_0
     replace hx389_1 := pw_cell_below HB.out hx389_1
     replace p389 := eq_true p389
     replace q389 := eq_true q389
     refine start_ (n := 8) (S := fun w' => w'.cell? (ad387.add ((x5_1).toNat * 2)) = some (.string ((rd_T88 l0 x5_1).f0)) ∧ w'.cell? ⟨(ad387.add ((x5_1).toNat * 2)).block, (ad387.add ((x5_1).toNat * 2)).off + 1, none⟩ = some (.string ((rd_T88 l0 x5_1).f1))) (ds := []) #[false, false, false, false, false, false, false, false] (by kernel_rfl) rfl rfl ⟨(pw_cell_below HB.out hw389_0), (pw_cell_below HB.out hw389_1)⟩ (fun hHeld => ?_); refine with_tabW laws_heldDeclS.tab7 laws_heldDeclS.bits7 (fun HT_ HW_ => ?_)
     generalize w7.drew = w10 at HB hx389_0 hx389_1 hHeld ⊢
     refine pU 0 22 (tf 1 7) ?_
     refine pU 1 23 (tf 2 6) ?_
     refine pU 2 24 (tf 3 5) ?_
     refine pU 3 25 (tf 4 4) ?_
     refine pU 5 27 #[true, true, true, true, false, true, false, false] ?_
     refine take_ (i := 4) (N := some 26) (v := ?_) (a' := ?_) (tf 6 2) rfl rfl (take_ofW HT_.out HW_.out (by kernel_rfl)) (fun _ _ _ h => h) (Or.inl ⟨by rfl, ?_⟩) hHeld ?_ ?_
     rotate_left
     ·rintro w' ⟨s0, s1⟩
      go_simp
      with_reducible rfl
     rotate_left
     ·simp only [Act.put, sT, sZ, sS, i64_w, i32_w]
      rfl
     refine one_ (i := 6) (N := some 28) (tf 7 1) rfl rfl (one_of HT_.out (by kernel_rfl)) (by decide) (fun K hK => ?_)
     refine goes_ Try.func48 (by kernel_rfl) rfl #[.int .i64 (wrap64 (x1_1 + 1))] (by rfl) rfl rfl mA ?_
     with_reducible refine (laws_markText.calls k1 (wrap64 (x1_1 + 1)) t390 _ A9.out).mono ?_
     rintro e w11 ⟨rfl, hb⟩
     refine ⟨_, rfl, ?_⟩
     replace HB := Aside0.mk (below_step hB hb)
     (try clear hb)
     (try clear hb2)
     (try clear hk)
     (try clear hi)
     refine hK.out _ _ ⟨(pw_cell_below HB.out hw389_0), (pw_cell_below HB.out hw389_1)⟩ (fun hHeld => ?_)
     clear hK K
     refine norm_ (a' := ?_) ?_ ?_
     rotate_left
     ·show Act.put _ (some 28) _ = _
      simp only [Act.put, sT, sZ, sS, i64_w, i32_w]
      rfl
     refine pU 7 29 (tf 8 0) ?_
     refine done_ (done_of HT_.out (by kernel_rfl)) ?_
     by_cases c12 : ((rd_T88 l0 x5_1).f1).toList = t390.toList
     ·rw [if_pos c12] at H
      obtain ⟨c12b0, c12b1⟩ := eqT c12
      clear c12
      (first | rw [c12b0] | (simp only [i64_w, i32_w]; rw [c12b0]) | skip)
      have H' := Aside0.mk H
      clear H
      go_wp2
      go_roundg k1
      case measure => have := HK1.out; omega
      case rel => exact ⟨(wrap64 ((wrap64 (x1_1 + 1)) + 1)), (wrap64 (x5_1 + 1)), rG, rG, H', ⟨by have := HK1.out; omega⟩, ⟨hB⟩⟩
     ·rw [if_neg c12] at H
      obtain ⟨c12b0, c12b1⟩ := eqF c12
      (first | rw [c12b0] | (simp only [i64_w, i32_w]; rw [c12b0]) | skip)
      obtain rfl := Option.some.inj H
      go_wp2
      go_ret
      exact ⟨rE, hB⟩
    ·rw [if_neg c8] at H
     obtain ⟨c8b0, c8b1⟩ := eqF c8
     (first | rw [c8b0] | (simp only [i64_w, i32_w]; rw [c8b0]) | skip)
     obtain rfl := Option.some.inj H
     go_wp2
     go_ret
     exact ⟨rE, hB⟩
   ·rw [if_neg c3] at H
    have c3b0 : decide (x5_1 < (l0.length : Int)) = false := decide_eq_false c3
    clear c3
    obtain rfl := Option.some.inj H
    go_wp2
    go_ret
    exact ⟨rE, hB⟩

end Go.Proofs.Ytdbinpeglamnnaa.PX
