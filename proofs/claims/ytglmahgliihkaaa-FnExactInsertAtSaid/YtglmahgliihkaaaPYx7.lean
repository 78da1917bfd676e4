-- Written by the session's program hprint.py, over the kit's print program. Lean checks it.
import Derived.Test.YtglmahgliihkaaaPYx0
import Derived.Test.YtglmahgliihkaaaPYx4
import Derived.Test.YtglmahgliihkaaaPYx5
import Derived.Test.YtglmahgliihkaaaPYx6
namespace Go.Proofs.Ytglmahgliihkaaa.PY
open Go.RowKit Go.Proofs.YtglmahgliihkaaaW.PrintWords Go.Proofs.YtglmahgliihkaaaW.PrintLast Go.Proofs.YtglmahgliihkaaaW.PrintMore
attribute [local go_sem] max2_int min2_int max_two min_two max_three min_three max_four min_four   -- for this text's walks alone
set_option linter.unusedVariables false
set_option linter.unusedSimpArgs false
set_option maxHeartbeats 8000000
set_option maxRecDepth 100000

/-! ### impl_spliced: function 31 -/
def impl_spliced.f (k : Nat) (l0 : List (S34)) (a1 : Int) (a2 : Int) (l3 : List (S34)) : Option ((List (S34))) := if 0 ≤ a1 then (if a1 ≤ (l0.length : Int) then (if 0 ≤ a2 then (if a2 ≤ (l0.length : Int) then ((impl_Node_50.f k (([(l0.take (a1 : Int).toNat), l3, (l0.drop (a2 : Int).toNat)] : List (List (S34))))).bind fun t420 => ((impl_Merge.f k t420).bind fun t423 => (some t423))) else (none)) else (none)) else (none)) else (none)
def impl_spliced.T1 : Bool × List (List Nat × List Nat) := (true, [([], []), ([], []), ([0, 1], [0, 1]), ([], []), ([], []), ([], []), ([4, 5], [4, 5]), ([2, 3, 6], [2, 3, 6]), ([7], [7]), ([8, 8], [8]), ([9, 9, 0, 1, 2, 3, 4, 5, 6, 7, 8, 9], [9])])
def impl_spliced.B1 : List Nat := [0, 0, 3, 0, 0, 0, 48, 127, 255, 511, 1023]
theorem impl_spliced.tab1 : rtab .any (opsOf Try.f31 1) = impl_spliced.T1 := by kernel_rfl
theorem impl_spliced.bits1 : waitsOk impl_spliced.T1.2 impl_spliced.B1 = true := by kernel_rfl
theorem impl_spliced.callsD (k : Nat) (P0_ : Nat → Prop) (A0 : Option Addr) (c0 : Nat) (l0 : List (S34)) (a1 : Int) (a2 : Int) (P3_ : Nat → Prop) (A3 : Option Addr) (c3 : Nat) (l3 : List (S34)) (r : List (S34)) (w : World) (hs0 : Kd.V k34 34 w w.heap.size (fun k_ => P0_ k_) (.slice A0 l0.length c0) l0) (hs3 : Kd.V k34 34 w w.heap.size (fun k_ => P3_ k_) (.slice A3 l3.length c3) l3) (h : impl_spliced.f k l0 a1 a2 l3 = some r) :
  Calls Try.prog 31 #[.slice A0 l0.length c0, .int .i64 a1, .int .i64 a2, .slice A3 l3.length c3] w fun e w' => ∃ v0_ : Value, e = .returned (v0_) ∧ Kd.S kD 34 w' w.heap.size (fun _ => True) v0_ r ∧ Below w.heap.size w w' := by
 have HO0 := Aside0.mk (show Kd.V k34 34 w w.heap.size (fun k_ => ((P0_ k_ ∨ P3_ k_) ∨ w.heap.size ≤ k_)) (.slice A0 l0.length c0) l0 from Kd.V_mono hs0 (fun k_ hk => .inl (.inl hk)))
 have HO3 := Aside0.mk (show Kd.V k34 34 w w.heap.size (fun k_ => ((P0_ k_ ∨ P3_ k_) ∨ w.heap.size ≤ k_)) (.slice A3 l3.length c3) l3 from Kd.V_mono hs3 (fun k_ hk => .inl (.inr hk)))
 have HB := Aside0.mk (Below.refl w.heap.size w)
 have H : (if 0 ≤ a1 then (if a1 ≤ (l0.length : Int) then (if 0 ≤ a2 then (if a2 ≤ (l0.length : Int) then ((impl_Node_50.f k (([(l0.take (a1 : Int).toNat), l3, (l0.drop (a2 : Int).toNat)] : List (List (S34))))).bind fun t420 => ((impl_Merge.f k t420).bind fun t423 => (some t423))) else (none)) else (none)) else (none)) else (none)) = some r := h
 clear h
 obtain ⟨c5, H⟩ := if_som H
 obtain ⟨c5b0, c5b1⟩ := fcT c5
 clear c5
 obtain ⟨c6, H⟩ := if_som H
 obtain ⟨c6b0, c6b1⟩ := fcT c6
 clear c6
 obtain ⟨y407, hy407⟩ : ∃ y_ : List (S34), y_ = (l0.take (a1 : Int).toNat) := ⟨_, rfl⟩
 replace H : (if 0 ≤ a2 then (if a2 ≤ (l0.length : Int) then ((impl_Node_50.f k (([y407, l3, (l0.drop (a2 : Int).toNat)] : List (List (S34))))).bind fun t420 => ((impl_Merge.f k t420).bind fun t423 => (some t423))) else (none)) else (none)) = some r := by first | (rw [hy407]; with_reducible exact H) | (have H2_ := (Option.bind_some _ _).symm.trans H; rw [hy407]; with_reducible exact H2_) | (have H2_ := (Option.bind_some _ _).symm.trans H; with_reducible exact H2_) | with_reducible exact H | (rw [hy407]; exact H) | exact H
 have Ny407 := Aside0.mk hy407
 clear hy407
 obtain ⟨c7, H⟩ := if_som H
 obtain ⟨c7b0, c7b1⟩ := fcT c7
 clear c7
 obtain ⟨c8, H⟩ := if_som H
 obtain ⟨c8b0, c8b1⟩ := fcT c8
 clear c8
 obtain ⟨y412, hy412⟩ : ∃ y_ : List (S34), y_ = (l0.drop (a2 : Int).toNat) := ⟨_, rfl⟩
 replace H : ((impl_Node_50.f k (([y407, l3, y412] : List (List (S34))))).bind fun t420 => ((impl_Merge.f k t420).bind fun t423 => (some t423))) = some r := by first | (rw [hy412]; with_reducible exact H) | (have H2_ := (Option.bind_some _ _).symm.trans H; rw [hy412]; with_reducible exact H2_) | (have H2_ := (Option.bind_some _ _).symm.trans H; with_reducible exact H2_) | with_reducible exact H | (rw [hy412]; exact H) | exact H
 have Ny412 := Aside0.mk hy412
 clear hy412
 obtain ⟨y417, hy417⟩ : ∃ y_ : List (List (S34)), y_ = (([y407, l3, y412] : List (List (S34)))) := ⟨_, rfl⟩
 replace H : ((impl_Node_50.f k y417).bind fun t420 => ((impl_Merge.f k t420).bind fun t423 => (some t423))) = some r := by first | (rw [hy417]; with_reducible exact H) | (have H2_ := (Option.bind_some _ _).symm.trans H; rw [hy417]; with_reducible exact H2_) | (have H2_ := (Option.bind_some _ _).symm.trans H; with_reducible exact H2_) | with_reducible exact H | (rw [hy417]; exact H) | exact H
 have Ny417 := Aside0.mk hy417
 clear hy417
 replace H := Option.bind_eq_some_iff.mp H
 obtain ⟨t420, A90, H⟩ := H
 try dsimp only at H
 have A9 := Aside0.mk A90
 clear A90
 replace H := Option.bind_eq_some_iff.mp H
 obtain ⟨t423, A100, H⟩ := H
 try dsimp only at H
 have A10 := Aside0.mk A100
 clear A100
 obtain rfl := Option.some.inj H
 go_enter Try.func31, Try.ntmps31
 try go_wp2
 replace HO0 := Aside0.mk (Kd.V_drew HO0.out)
 replace HO3 := Aside0.mk (Kd.V_drew HO3.out)
 replace HB := Aside0.mk (below_drew1 HB.out)
 have q12 : (a1 : Int) ≤ ((l0.length : Int) : Int) := odt
 obtain ⟨i012, hi012, _, hsz12, _⟩ := info_parts info34
 have hroom12 : l0.length ≤ c0 := (Kd.V_reads' HO0.out).2.1
 have hC12 : Kd.F k34 _ _ A0 l0.length l0 := (Kd.V_at (base := w.heap.size) HO0.out).2.2
 have hcut12 := cut_to (P := Try.prog) 32 34 .i64 Try.underlying32 hi012 A0 l0.length c0 a1 (odt) q12 hroom12
 have hr12 := Kd.F_take (m := (a1 : Int).toNat) hC12 (by omega)
 have hy12 : y407.length = (a1 : Int).toNat := (by rw [Ny407.out, List.length_take]; omega)
 rw [← Ny407.out] at hr12
 rw [← hy12] at hcut12
 have HO411 := Aside0.mk (show Kd.V k34 34 _ w.heap.size _ (.slice A0 y407.length c0) y407 from Kd.V_mk (by omega) hr12)
 have HC411 := Aside0.mk (show y407.length ≤ c0 from by omega)
 clear hr12 hC12 hroom12 hi012 hsz12
 have KY12 := Aside0.mk hy12
 clear hy12
 replace q12 := eq_true q12
 have q13 : (a2 : Int) ≤ ((l0.length : Int) : Int) := odt
 obtain ⟨i013, hi013, _, hsz13, _⟩ := info_parts info34
 have hroom13 : l0.length ≤ c0 := (Kd.V_reads' HO0.out).2.1
 have hC13 : Kd.F k34 _ _ A0 l0.length l0 := (Kd.V_at (base := w.heap.size) HO0.out).2.2
 have q013 : (0 : Int) ≤ (a2 : Int) := odt
 have hcut13 := cut_from (P := Try.prog) 32 34 .i64 Try.underlying32 hi013 8 hsz13 A0 l0.length c0 a2 q013 q13
 have hr13 := Kd.F_cut (m := (a2 : Int).toNat) (c := c0) hC13 (by omega) hroom13
 obtain ⟨A13, hA13⟩ : ∃ A1, A1 = (if c0 = (a2 : Int).toNat then A0 else (A0 : Option Addr).map (·.add ((a2 : Int).toNat * 8))) := ⟨_, rfl⟩
 obtain ⟨c13, hc13⟩ : ∃ c1, c1 = c0 - (a2 : Int).toNat := ⟨_, rfl⟩
 have hy13 : y412.length = l0.length - (a2 : Int).toNat := (by rw [Ny412.out, List.length_drop] <;> omega)
 rw [show (l0).drop (a2 : Int).toNat = y412 from Ny412.out.symm] at hr13
 replace hr13 : Kd.F k34 _ _ A13 y412.length y412 := (by rw [hA13]; exact hr13)
 rw [← hy13, ← hA13, ← hc13] at hcut13
 have HO416 := Aside0.mk (show Kd.V k34 34 _ w.heap.size _ (.slice A13 y412.length c13) y412 from Kd.V_mk (by rw [hy13, hc13]; exact Nat.sub_le_sub_right hroom13 _) hr13)
 have HC416 := Aside0.mk (show y412.length ≤ c13 from by rw [hy13, hc13]; exact Nat.sub_le_sub_right hroom13 _)
 clear hr13 hC13 hroom13 hi013 hsz13 hc13
 have KY13 := Aside0.mk hy13
 have KA13 := Aside0.mk hA13
 clear hy13 hA13
 replace q13 := eq_true q13
 refine start_ (n := 11) (S := fun w' => True) (ds := []) #[false, false, false, false, false, false, false, false, false, false, false] (by kernel_rfl) rfl rfl trivial (fun hHeld => ?_); refine with_tabW impl_spliced.tab1 impl_spliced.bits1 (fun HT_ HW_ => ?_)
 generalize w.drew = w11 at HO0 HO3 HB HO411 HO416 hHeld ⊢
 refine pU 0 9 (tf 1 10) ?_
 refine pU 1 10 (tf 2 9) ?_
 refine pU 2 11 (tf 3 8) ?_
 refine pU 3 12 (tf 4 7) ?_
 refine pU 4 13 (tf 5 6) ?_
 refine pU 5 14 (tf 6 5) ?_
 refine pU 6 15 (tf 7 4) ?_
 refine one_ (i := 7) (N := some 16) (tf 8 3) rfl rfl (one_of HT_.out (by kernel_rfl)) (by decide) (fun K hK => ?_)
 refine Kd.N_lit_step (Kd.slice 34 k34) _ 32 ?hg (N' := 16) ?hd (xs := ([y407, l3, y412] : List (List (S34)))) (inner := [.slice A0 y407.length c0, .slice A3 l3.length c3, .slice A13 y412.length c13]) (ok := (fun k_ => ((P0_ k_ ∨ P3_ k_) ∨ w.heap.size ≤ k_))) (okp := (fun k_ => ((P0_ k_ ∨ P3_ k_) ∨ w.heap.size ≤ k_))) ?hr ?hp (fun _ hk => hk) ((show ∀ k_, w11.heap.size ≤ k_ → (fun k_ => ((P0_ k_ ∨ P3_ k_) ∨ w.heap.size ≤ k_)) k_ from fun k_ hk => (.inr (Nat.le_trans (below_size hB) hk))) _ (Nat.le_refl _)) (Below.refl _ _) (Nat.le_refl _) (by simp) ?_; (case hd => rfl); (case hg => rfl); (case hr => first | (go_simp; done) | (go_simp; rfl)); (case hp => exact (Reps.one (show Kd.FK (Kd.slice 34 k34) _ _ y407 [.slice A0 y407.length c0] from (Kd.FK_slice_mk (Kd.V_reads' (Kd.V_mono (ok' := (fun k_ => ((P0_ k_ ∨ P3_ k_) ∨ w.heap.size ≤ k_))) (HO411.out) (fun k_ hk => hk))).2.1 (Kd.V_F (Kd.V_mono (ok' := (fun k_ => ((P0_ k_ ∨ P3_ k_) ∨ w.heap.size ≤ k_))) (HO411.out) (fun k_ hk => hk))))) (Reps.one (show Kd.FK (Kd.slice 34 k34) _ _ l3 [.slice A3 l3.length c3] from (Kd.FK_slice_mk (Kd.V_reads' (Kd.V_mono (ok' := (fun k_ => ((P0_ k_ ∨ P3_ k_) ∨ w.heap.size ≤ k_))) (HO3.out) (fun k_ hk => hk))).2.1 (Kd.V_F (Kd.V_mono (ok' := (fun k_ => ((P0_ k_ ∨ P3_ k_) ∨ w.heap.size ≤ k_))) (HO3.out) (fun k_ hk => hk))))) (Reps.one (show Kd.FK (Kd.slice 34 k34) _ _ y412 [.slice A13 y412.length c13] from (Kd.FK_slice_mk (Kd.V_reads' (Kd.V_mono (ok' := (fun k_ => ((P0_ k_ ∨ P3_ k_) ∨ w.heap.size ≤ k_))) (HO416.out) (fun k_ hk => hk))).2.1 (Kd.V_F (Kd.V_mono (ok' := (fun k_ => ((P0_ k_ ∨ P3_ k_) ∨ w.heap.size ≤ k_))) (HO416.out) (fun k_ hk => hk))))) (Reps.none _ _)))))
 intro v418 w14 ho15 hb hg_ hnew_
 clear hg_ hnew_
 (first | rw [← Ny417.out] at ho15 | (simp only [Int.reduceToNat] at ho15; rw [← Ny417.out] at ho15))
 replace HO0 := Aside0.mk (Kd.V_elder' (by (with_reducible repeat (first | apply Kd.V_alloc | apply Kd.V_drewN | apply Kd.V_drew)); exact HO0.out) (Kd.N_base ho15) hb)
 replace HO3 := Aside0.mk (Kd.V_elder' (by (with_reducible repeat (first | apply Kd.V_alloc | apply Kd.V_drewN | apply Kd.V_drew)); exact HO3.out) (Kd.N_base ho15) hb)
 replace HO411 := Aside0.mk (Kd.V_elder' (by (with_reducible repeat (first | apply Kd.V_alloc | apply Kd.V_drewN | apply Kd.V_drew)); exact HO411.out) (Kd.N_base ho15) hb)
 replace HO416 := Aside0.mk (Kd.V_elder' (by (with_reducible repeat (first | apply Kd.V_alloc | apply Kd.V_drewN | apply Kd.V_drew)); exact HO416.out) (Kd.N_base ho15) hb)
 have HO419 := Aside0.mk (Kd.N_lower ho15 (below_size hB))
 replace HB := Aside0.mk (below_step hB hb)
 clear hb ho15
 obtain ⟨Ao16, co16, eo16⟩ := Kd.N_slice HO419.out
 (first | subst eo16 | (injection eo16 with f1_ f2_ f3_; have f4_ := f1_.symm; have f5_ := f3_.symm; clear f1_ f2_ f3_; subst f4_; subst f5_))
 refine hK.out _ _ trivial (fun hHeld => ?_)
 clear hK K
 refine norm_ (a' := ?_) ?_ ?_
 rotate_left
 ·show Act.put _ (some 16) _ = _
  simp only [Act.put, sT, sZ, sS, i64_w, i32_w]
  rfl
 refine one_ (i := 8) (N := some 17) (tf 9 2) rfl rfl (one_of HT_.out (by kernel_rfl)) (by decide) (fun K hK => ?_)
 refine goes_ Try.func50 (by kernel_rfl) rfl #[.slice Ao16 y417.length co16] (by rfl) rfl rfl mA ?_
 with_reducible refine (impl_Node_50.calls k (fun k_ => ((P0_ k_ ∨ P3_ k_) ∨ w.heap.size ≤ k_)) _ _ y417 t420 _ ?side1 A9.out).mono ?_
 (case side1 => exact Kd.N_V (HO419.out))
 rintro e w17 ⟨v421, rfl, ho0, hb⟩
 refine ⟨_, rfl, ?_⟩
 replace HO0 := Aside0.mk (Kd.V_elder' (by (with_reducible repeat (first | apply Kd.V_alloc | apply Kd.V_drewN | apply Kd.V_drew)); exact HO0.out) (Kd.N_base ho0) hb)
 replace HO3 := Aside0.mk (Kd.V_elder' (by (with_reducible repeat (first | apply Kd.V_alloc | apply Kd.V_drewN | apply Kd.V_drew)); exact HO3.out) (Kd.N_base ho0) hb)
 replace HO411 := Aside0.mk (Kd.V_elder' (by (with_reducible repeat (first | apply Kd.V_alloc | apply Kd.V_drewN | apply Kd.V_drew)); exact HO411.out) (Kd.N_base ho0) hb)
 replace HO416 := Aside0.mk (Kd.V_elder' (by (with_reducible repeat (first | apply Kd.V_alloc | apply Kd.V_drewN | apply Kd.V_drew)); exact HO416.out) (Kd.N_base ho0) hb)
 replace HO419 := Aside0.mk (Kd.N_elder' (by (with_reducible repeat (first | apply Kd.N_alloc | apply Kd.N_drewN | apply Kd.N_drew)); exact HO419.out) (Kd.N_base ho0) hb)
 have HO422 := Aside0.mk (Kd.N_lower (Kd.N_mono (ok' := fun k_ => ((P0_ k_ ∨ P3_ k_) ∨ w.heap.size ≤ k_)) ho0 (fun k_ hk_ => Or.elim hk_ (fun hs_ => hs_) (fun hn_ => (.inr (Nat.le_trans (below_size hB) hn_))))) (below_size hB))
 replace HB := Aside0.mk (below_step hB hb)
 (try clear hb)
 (try clear hb2)
 (try clear hk)
 (try clear hi)
 (try clear ho0)
 obtain ⟨Ao18, co18, eo18⟩ := Kd.N_slice HO422.out
 (first | subst eo18 | (injection eo18 with f1_ f2_ f3_; have f4_ := f1_.symm; have f5_ := f3_.symm; clear f1_ f2_ f3_; subst f4_; subst f5_))
 refine hK.out _ _ trivial (fun hHeld => ?_)
 clear hK K
 refine norm_ (a' := ?_) ?_ ?_
 rotate_left
 ·show Act.put _ (some 17) _ = _
  simp only [Act.put, sT, sZ, sS, i64_w, i32_w]
  rfl
 refine one_ (i := 9) (N := some 18) (tf 10 1) rfl rfl (one_of HT_.out (by kernel_rfl)) (by decide) (fun K hK => ?_)
 refine goes_ Try.func49 (by kernel_rfl) rfl #[.slice Ao18 t420.length co18] (by rfl) rfl rfl mA ?_
 with_reducible refine (impl_Merge.callsD k _ _ t420 t423 _ ?side1 ?side2 A10.out).mono ?_
 (case side1 => repeat (first | exact (Kd.N_reads' HO422.out).2.2 | (with_reducible refine Kd.C_alloc ?_ _) | (with_reducible refine Kd.C_drewN ?_ _) | (with_reducible refine Kd.C_drew ?_)))
 (case side2 => exact (Kd.N_reads' HO422.out).2.1)
 rintro e w19 ⟨v424, rfl, ho0, hb⟩
 refine ⟨_, rfl, ?_⟩
 have HO425 := Aside0.mk (Kd.S_lower ho0 (below_size (by repeat (first|(with_reducible first|exact HB.out|apply zA|apply zN|apply zD) | exact HB.out))))
 replace HB := Aside0.mk (below_step hB hb)
 (try clear hb)
 (try clear hb2)
 (try clear hk)
 (try clear hi)
 (try clear ho0)
 refine hK.out _ _ trivial (fun hHeld => ?_)
 clear hK K
 refine norm_ (a' := ?_) ?_ ?_
 rotate_left
 ·show Act.put _ (some 18) _ = _
  simp only [Act.put, sT, sZ, sS, i64_w, i32_w]
  rfl
 refine pU 10 8 (tf 11 0) ?_
 refine done_ (done_of HT_.out (by kernel_rfl)) ?_
 try go_wp2
 go_ret
 exact ⟨_, rE, HO425.out, hB⟩
/-! ### impl_turnedAt: function 29 -/
def impl_turnedAt.turn (k : Nat) (i : Int) (l : List S34) (y : S34) : Option S34 := (impl_spliced.f k y.f6 i i l).bind fun s => some ⟨y.f0, y.f1, y.f2, y.f3, y.f4, y.f5, s, y.f7⟩
def impl_turnedAt.f : Nat → S34 → List Int → Int → List S34 → Option S34
  | 0, _, _, _, _ => none
  | k + 1, x, path, i, l => (impl_cloneNode.f k x.f0 x.f1 x.f2 x.f3 x.f4 x.f5 x.f6 x.f7).bind fun c => match path with
    | [] => impl_turnedAt.turn k i l ⟨c.1, c.2.1, c.2.2.1, c.2.2.2.1, c.2.2.2.2.1, c.2.2.2.2.2.1, c.2.2.2.2.2.2.1, c.2.2.2.2.2.2.2⟩
    | p :: ps => if 0 ≤ p ∧ p < (c.2.2.2.2.2.2.1.length : Int) then (impl_turnedAt.f k (rd_T34 c.2.2.2.2.2.2.1 p) ps i l).bind fun y => some ⟨c.1, c.2.1, c.2.2.1, c.2.2.2.1, c.2.2.2.2.1, c.2.2.2.2.2.1, c.2.2.2.2.2.2.1.set p.toNat y, c.2.2.2.2.2.2.2⟩ else none
theorem impl_turnedAt.vb {α : Type} {d : Kd α} {e b b' : Nat} {W W1 : World} {ok : Nat → Prop} {v : Value} {xs : List α} (h : Kd.V d e W b ok v xs) (hb : Below W.heap.size W W1) : Kd.V d e W1 b' ok v xs := Kd.V_map h (fun _ hf => Kd.F_below hf hb)
theorem impl_turnedAt.ch8 {W0 w : World} {g : Nat} {u0 u1 u2 u3 u4 u5 u6 u7 : Value} (hb : Below W0.heap.size W0 w) (hg : W0.heap.size ≤ g) : Below W0.heap.size W0 ((((((((w.setCell ⟨g, 0, none⟩ u0).setCell ⟨g, 1, none⟩ u1).setCell ⟨g, 2, none⟩ u2).setCell ⟨g, 3, none⟩ u3).setCell ⟨g, 4, none⟩ u4).setCell ⟨g, 5, none⟩ u5).setCell ⟨g, 6, none⟩ u6).setCell ⟨g, 7, none⟩ u7) := below_set (below_set (below_set (below_set (below_set (below_set (below_set (below_set hb hg) hg) hg) hg) hg) hg) hg) hg
theorem impl_turnedAt.finR {α : Type} {d : Kd α} {e base g : Nat} {W : World} {ok : Nat → Prop} {v : Value} {xs : List α} {u0 u1 u2 u3 u4 u5 u6 u7 : Value} (h : d.R e W base ok v xs) (hg : g < base) : d.R e ((((((((W.setCell ⟨g, 0, none⟩ u0).setCell ⟨g, 1, none⟩ u1).setCell ⟨g, 2, none⟩ u2).setCell ⟨g, 3, none⟩ u3).setCell ⟨g, 4, none⟩ u4).setCell ⟨g, 5, none⟩ u5).setCell ⟨g, 6, none⟩ u6).setCell ⟨g, 7, none⟩ u7) base ok v xs := by
  have hk : ∀ k, (ok k ∧ base ≤ k ∧ k < W.heap.size ∧ ∃ q, q ∈ e :: d.E ∧ ∃ cells, W.heap[k]? = some (.cells cells q (0, 0))) → k ≠ g := fun k h_ => by have := h_.2.1; omega
  exact Kd.R_mono (Kd.R_far (p := ⟨g, 7, none⟩) (Kd.R_far (p := ⟨g, 6, none⟩) (Kd.R_far (p := ⟨g, 5, none⟩) (Kd.R_far (p := ⟨g, 4, none⟩) (Kd.R_far (p := ⟨g, 3, none⟩) (Kd.R_far (p := ⟨g, 2, none⟩) (Kd.R_far (p := ⟨g, 1, none⟩) (Kd.R_far (p := ⟨g, 0, none⟩) (Kd.R_bound h) hk u0) hk u1) hk u2) hk u3) hk u4) hk u5) hk u6) hk u7) (fun _ h_ => h_.1)
theorem impl_turnedAt.finS {α : Type} {d : Kd α} {e base g : Nat} {W : World} {ok : Nat → Prop} {v : Value} {xs : List α} {u0 u1 u2 u3 u4 u5 u6 u7 : Value} (h : Kd.S d e W base ok v xs) (hg : g < base) : Kd.S d e ((((((((W.setCell ⟨g, 0, none⟩ u0).setCell ⟨g, 1, none⟩ u1).setCell ⟨g, 2, none⟩ u2).setCell ⟨g, 3, none⟩ u3).setCell ⟨g, 4, none⟩ u4).setCell ⟨g, 5, none⟩ u5).setCell ⟨g, 6, none⟩ u6).setCell ⟨g, 7, none⟩ u7) base ok v xs := by
  have hk : ∀ k, (ok k ∧ base ≤ k ∧ k < W.heap.size ∧ ∃ q, q ∈ e :: d.E ∧ ∃ cells, W.heap[k]? = some (.cells cells q (0, 0))) → k ≠ g := fun k h_ => by have := h_.2.1; omega
  exact Kd.S_mono (Kd.S_far (p := ⟨g, 7, none⟩) (Kd.S_far (p := ⟨g, 6, none⟩) (Kd.S_far (p := ⟨g, 5, none⟩) (Kd.S_far (p := ⟨g, 4, none⟩) (Kd.S_far (p := ⟨g, 3, none⟩) (Kd.S_far (p := ⟨g, 2, none⟩) (Kd.S_far (p := ⟨g, 1, none⟩) (Kd.S_far (p := ⟨g, 0, none⟩) (Kd.S_bound h) hk u0) hk u1) hk u2) hk u3) hk u4) hk u5) hk u6) hk u7) (fun _ h_ => h_.1)
set_option maxHeartbeats 4000000 in
set_option maxRecDepth 100000 in
theorem impl_turnedAt.lit (k : Nat) (y : S34) (A4 : Option Addr) (c4 : Nat) (A5 : Option Addr) (c5 : Nat) (P6 : Nat → Prop) (A6 : Option Addr) (c6 : Nat) (i : Int) (Pl : Nat → Prop) (Al : Option Addr) (cl : Nat) (l : List S34) (gi gl : Nat) (s : List S34) (w : World) (hV : Kd.V k34 34 w w.heap.size P6 (.slice A6 y.f6.length c6) y.f6) (hL : Kd.V k34 34 w w.heap.size Pl (.slice Al l.length cl) l) (hgi : w.heap[gi]? = some (.cells #[.int .i64 i] 3 (0, 0))) (hgl : w.heap[gl]? = some (.cells #[.slice Al l.length cl] 32 (0, 0))) (h : impl_spliced.f k y.f6 i i l = some s) :
    Calls Try.prog 30 #[.agg #[.int .i64 y.f0, .string y.f1, .string y.f2, .string y.f3, .slice A4 y.f4.length c4, .slice A5 y.f5.length c5, .slice A6 y.f6.length c6, .string y.f7], .pointer (some ⟨gi, 0, none⟩), .pointer (some ⟨gl, 0, none⟩)] w fun e w' => ∃ v6 : Value, e = .returned (.agg #[.int .i64 y.f0, .string y.f1, .string y.f2, .string y.f3, .slice A4 y.f4.length c4, .slice A5 y.f5.length c5, v6, .string y.f7]) ∧ Kd.S kD 34 w' w.heap.size (fun _ => True) v6 s ∧ Below w.heap.size w w' := by
  have HV := Aside0.mk hV
  have HL := Aside0.mk hL
  have HGI := Aside0.mk hgi
  have HGL := Aside0.mk hgl
  have HH := Aside0.mk h
  have HB := Aside0.mk (Below.refl w.heap.size w)
  clear hV hL hgi hgl h
  have hu34 := Try.underlying34
  go_enter Try.func30, Try.ntmps30
  go_upto_region 2 with (first
      | ((with_reducible refine gate_dst (N := 3) rfl ?_); refine box_event ?hg (N := 3) ?hd (cs := #[.int .i64 y.f0, .string y.f1, .string y.f2, .string y.f3, .slice A4 y.f4.length c4, .slice A5 y.f5.length c5, .slice A6 y.f6.length c6, .string y.f7]) (t := 34) ?hr ?_; (case hd => rfl); (case hg => rfl); (case hr => first | (go_simp; done) | (go_simp; rfl)); intro gx hg w1 hbox hb; have BX := Aside0.mk hbox; have GX := Aside0.mk (show w.heap.size ≤ gx from Nat.le_of_eq hg.symm); replace HB := Aside0.mk (below_step HB.out hb); clear hb hbox hg)
      | ((with_reducible refine gate_dst (N := 4) rfl ?_); refine box_event ?hg (N := 4) ?hd (cs := #[.int .i64 0, .string (⟨#[]⟩ : ByteArray), .string (⟨#[]⟩ : ByteArray), .string (⟨#[]⟩ : ByteArray), .slice none 0 0, .slice none 0 0, .slice none 0 0, .string (⟨#[]⟩ : ByteArray)]) (t := 34) ?hr ?_; (case hd => rfl); (case hg => rfl); (case hr => first | (go_simp; done) | (go_simp; rfl)); intro gR hg w1 hbox hb; have BR := Aside0.mk hbox; have GR := Aside0.mk (show gx < gR by rw [hg]; exact blk_lt BX.out); replace BX := Aside0.mk (blk_below BX.out hb); replace HB := Aside0.mk (below_step HB.out hb); clear hb hbox hg; obtain ⟨zk0, zk1, zk2, zk3, zk4, zk5, zk6, zk7⟩ := bc8 BX.out; have zi := blk_cell (blk_below HGI.out HB.out) 0; have zl := blk_cell (blk_below HGL.out HB.out) 0)
      | ((with_reducible refine gate_callee (f := 31) rfl ?_); refine goesL_ (some 10) rfl rfl Try.func31 (by kernel_rfl) rfl #[.slice A6 y.f6.length c6, .int .i64 i, .int .i64 i, .slice Al l.length cl] rfl mA ?_; (with_reducible refine (impl_spliced.callsD k P6 A6 c6 y.f6 i i Pl Al cl l s _ (impl_turnedAt.vb HV.out HB.out) (impl_turnedAt.vb HL.out HB.out) HH.out).mono ?_); rintro e w5 ⟨v6, rfl, h6, hb⟩; refine ⟨_, rfl, ?_⟩; obtain ⟨N6, hN6, h6⟩ : ∃ N6 : Nat, gR < N6 ∧ Kd.S kD 34 w5 N6 (fun _ => True) v6 s := ⟨_, blk_lt BR.out, h6⟩; have HN := Aside0.mk hN6; have H6 := Aside0.mk h6; replace BX := Aside0.mk (blk_below BX.out hb); replace BR := Aside0.mk (blk_below BR.out hb); replace HB := Aside0.mk (below_step HB.out hb); clear h6 hb hN6 zi zl zk0 zk1 zk2 zk3 zk4 zk5 zk6 zk7; obtain ⟨B6, d6, e_⟩ := Kd.S_slice H6.out; subst e_; have z6 := blk_cell BX.out 6; have y6 := blk_frozen BX.out 6))
  clear z6 y6
  replace BX := Aside0.mk (blk_put (cs' := #[.int .i64 y.f0, .string y.f1, .string y.f2, .string y.f3, .slice A4 y.f4.length c4, .slice A5 y.f5.length c5, .slice B6 s.length d6, .string y.f7]) BX.out 6 (.slice B6 s.length d6) rfl)
  replace BR := Aside0.mk (blk_far BR.out (p := ⟨gx, 6, none⟩) (Nat.ne_of_gt GR.out) (.slice B6 s.length d6))
  replace H6 := Aside0.mk (Kd.S_mono (ok' := fun _ => True) (Kd.S_far (p := ⟨gx, 6, none⟩) (Kd.S_bound H6.out) (fun k_ h_ => by have h2_ := h_.2.1; have h3_ := HN.out; have h4_ := GR.out; show k_ ≠ gx; omega) (.slice B6 s.length d6)) (fun _ _ => trivial))
  replace HB := Aside0.mk (below_set (j := 6) (v := .slice B6 s.length d6) HB.out GX.out)
  generalize World.setCell _ _ _ = w8 at BX BR H6 HB ⊢
  obtain ⟨zk0, zk1, zk2, zk3, zk4, zk5, zk6, zk7⟩ := bc8 BX.out
  obtain ⟨zr0, zr1, zr2, zr3, zr4, zr5, zr6, zr7⟩ := bc8 BR.out
  obtain ⟨yr0, yr1, yr2, yr3, yr4, yr5, yr6, yr7⟩ := bf8 BR.out
  go_wp2
  refine bodyPost_ret (results_cell_row rfl _ _ gR 34 #[.int .i64 y.f0, .string y.f1, .string y.f2, .string y.f3, .slice A4 y.f4.length c4, .slice A5 y.f5.length c5, .slice B6 s.length d6, .string y.f7] (0, 0) _ rfl (put8 BR.out) Try.underlying34 rfl (by kernel_rfl)) rfl ?_
  exact ⟨_, rfl, Kd.S_lower (impl_turnedAt.finS (u0 := .int .i64 y.f0) (u1 := .string y.f1) (u2 := .string y.f2) (u3 := .string y.f3) (u4 := .slice A4 y.f4.length c4) (u5 := .slice A5 y.f5.length c5) (u6 := .slice B6 s.length d6) (u7 := .string y.f7) H6.out HN.out) (Nat.le_trans GX.out (Nat.le_trans (Nat.le_of_lt GR.out) (Nat.le_of_lt HN.out))), impl_turnedAt.ch8 HB.out (Nat.le_trans GX.out (Nat.le_of_lt GR.out))⟩
theorem impl_turnedAt.put {W : World} {base N g n cap : Nat} {xs : List S34} {v4 v5 v6 : Value} {ok : Nat → Prop} (hok : ∀ k, N ≤ k → ok k) (h : Kd.S kD 34 W base (fun k => ok k ∧ k < N) (.slice (some ⟨g, 0, none⟩) n cap) xs) (hg : g < N) (i : Int) (h0 : 0 ≤ i) (h1 : i < n) (y : S34) (hb : base ≤ N)
    (h4 : k69.R 69 W N (fun _ => True) v4 y.f4) (h5 : k71.R 71 W N (fun _ => True) v5 y.f5) (h6 : Kd.S kD 34 W N (fun k_ => some k_ ≠ (v4 : Value).ownBlock ∧ some k_ ≠ (v5 : Value).ownBlock) v6 y.f6) : Kd.S kD 34 (W.setCells g (i.toNat * 8) (cN y v4 v5 v6)) base ok (.slice (some ⟨g, 0, none⟩) n cap) (xs.set i.toNat y) ∧ W.grownBy (W.setCells g (i.toNat * 8) (cN y v4 v5 v6)) (some g) := by
  obtain ⟨oki, c, hcl, -, -, -, -, hH⟩ := Kd.S_elem h z34 i h0 h1
  have hH2 : Kd.H kD 34 W base (fun k => ok k ∧ ¬ (fun k => N ≤ k) k) (.slice (some ⟨g, 0, none⟩) n cap) xs i oki c := Kd.H_mono hH (fun k hk => ⟨hk.1, Nat.not_le.2 hk.2⟩)
  have hcl8 : c.length = 8 := hcl
  have hM : kD.M W base (fun k => N ≤ k) y (c.take 0 ++ cN y v4 v5 v6 ++ c.drop (0 + (cN y v4 v5 v6).length)) := by
    rw [List.take_zero, List.nil_append, List.drop_eq_nil_of_le (by rw [hcl8]; show 8 ≤ 0 + 8; omega), List.append_nil]
    exact kD_elemM hb y h4 h5 h6
  have hz : kD.sz = 8 := rfl
  have hj : 0 + (cN y v4 v5 v6).length ≤ kD.sz := Nat.le_refl 8
  have hS := Kd.S_seg (okg := fun k => N ≤ k) (ok := ok) (okp := fun k => N ≤ k) (seg := cN y v4 v5 v6) (j := 0) (x' := y) hH2 h0 h1 hj hM (fun k h => Or.inr h) (fun k h => ⟨hok k h, fun e => Nat.not_lt.2 h (e ▸ hg)⟩)
  rw [hz, Nat.add_zero] at hS
  exact hS
theorem impl_turnedAt.callsD (k : Nat) : ∀ (x : S34) (A4 : Option Addr) (c4 : Nat) (A5 : Option Addr) (c5 : Nat) (A6 : Option Addr) (c6 : Nat) (Ap : Option Addr) (cp : Nat) (path : List Int) (i : Int) (Pl : Nat → Prop) (Al : Option Addr) (cl : Nat) (l : List S34) (gi gl : Nat) (r : S34) (w : World) (hr4 : Kd.C k69 w A4 x.f4.length x.f4) (hc4 : x.f4.length ≤ c4) (hr5 : Kd.C k71 w A5 x.f5.length x.f5) (hc5 : x.f5.length ≤ c5) (hr6 : Kd.C k34 w A6 x.f6.length x.f6) (hc6 : x.f6.length ≤ c6) (hp : Kd.C (Kd.int .i64) w Ap path.length path) (hcp : path.length ≤ cp) (hL : Kd.V k34 34 w w.heap.size Pl (.slice Al l.length cl) l) (hgi : w.heap[gi]? = some (.cells #[.int .i64 i] 3 (0, 0))) (hgl : w.heap[gl]? = some (.cells #[.slice Al l.length cl] 32 (0, 0))) (h : impl_turnedAt.f k x path i l = some r),
    Calls Try.prog 29 #[.agg #[.int .i64 x.f0, .string x.f1, .string x.f2, .string x.f3, .slice A4 x.f4.length c4, .slice A5 x.f5.length c5, .slice A6 x.f6.length c6, .string x.f7], .slice Ap path.length cp, .func (.func 30) #[] #[.pointer (some ⟨gi, 0, none⟩), .pointer (some ⟨gl, 0, none⟩)]] w fun e w' => ∃ v4 v5 v6 : Value, e = .returned (.agg #[.int .i64 r.f0, .string r.f1, .string r.f2, .string r.f3, v4, v5, v6, .string r.f7]) ∧ Kd.R k69 69 w' w.heap.size (fun _ => True) v4 r.f4 ∧ Kd.R k71 71 w' w.heap.size (fun _ => True) v5 r.f5 ∧ Kd.S kD 34 w' w.heap.size (fun k_ => some k_ ≠ (v4 : Value).ownBlock ∧ some k_ ≠ (v5 : Value).ownBlock) v6 r.f6 ∧ Below w.heap.size w w' := by
  induction k with
  | zero => intro x A4 c4 A5 c5 A6 c6 Ap cp path i Pl Al cl l gi gl r w hr4 hc4 hr5 hc5 hr6 hc6 hp hcp hL hgi hgl h; exact absurd h (by simp [impl_turnedAt.f])
  | succ k ih =>
  intro x A4 c4 A5 c5 A6 c6 Ap cp path i Pl Al cl l gi gl r w hr4 hc4 hr5 hc5 hr6 hc6 hp hcp hL hgi hgl h
  simp only [impl_turnedAt.f] at h
  replace h := Option.bind_eq_some_iff.1 h
  obtain ⟨⟨y0, y1, y2, y3, y4, y5, y6, y7⟩, hc_, h⟩ := h
  dsimp only at h
  have IH := Aside0.mk ih
  have TC := Aside0.mk hc_
  have HR4 := Aside0.mk hr4
  have HC4 := Aside0.mk hc4
  have HR5 := Aside0.mk hr5
  have HC5 := Aside0.mk hc5
  have HR6 := Aside0.mk hr6
  have HC6 := Aside0.mk hc6
  have HRp := Aside0.mk hp
  have HCp := Aside0.mk hcp
  have HL := Aside0.mk hL
  have HGI := Aside0.mk hgi
  have HGL := Aside0.mk hgl
  have HB := Aside0.mk (Below.refl w.heap.size w)
  clear ih hc_ hr4 hc4 hr5 hc5 hr6 hc6 hp hcp hL hgi hgl
  have hu34 := Try.underlying34
  have eg : ∀ args w, (callFunc 30 args).run Try.prog w = .ok (.enter 30 args) w := enters_of Try.func30 (by kernel_rfl) rfl
  cases path with
  | nil =>
    simp only [impl_turnedAt.turn] at h
    replace h := Option.bind_eq_some_iff.1 h
    obtain ⟨s, hs, h⟩ := h
    simp only [Option.some.injEq] at h
    subst h
    have TS := Aside0.mk hs
    clear hs
    go_enter Try.func29, Try.ntmps29
    go_wp2_with (first
      | ((with_reducible refine gate_dst (N := 3) rfl ?_); refine box_event ?hg (N := 3) ?hd (cs := #[.int .i64 x.f0, .string x.f1, .string x.f2, .string x.f3, .slice A4 x.f4.length c4, .slice A5 x.f5.length c5, .slice A6 x.f6.length c6, .string x.f7]) (t := 34) ?hr ?_; (case hd => rfl); (case hg => rfl); (case hr => first | (go_simp; done) | (go_simp; rfl)); intro gx hg w1 hbox hb; have BX := Aside0.mk hbox; have GX := Aside0.mk (show w.heap.size ≤ gx from Nat.le_of_eq hg.symm); replace HB := Aside0.mk (below_step HB.out hb); clear hb hbox hg)
      | ((with_reducible refine gate_dst (N := 6) rfl ?_); refine box_event ?hg (N := 6) ?hd (cs := #[.int .i64 0, .string (⟨#[]⟩ : ByteArray), .string (⟨#[]⟩ : ByteArray), .string (⟨#[]⟩ : ByteArray), .slice none 0 0, .slice none 0 0, .slice none 0 0, .string (⟨#[]⟩ : ByteArray)]) (t := 34) ?hr ?_; (case hd => rfl); (case hg => rfl); (case hr => first | (go_simp; done) | (go_simp; rfl)); intro gR hg w1 hbox hb; have BR := Aside0.mk hbox; have GR := Aside0.mk (show gx < gR by rw [hg]; exact blk_lt BX.out); replace BX := Aside0.mk (blk_below BX.out hb); replace HB := Aside0.mk (below_step HB.out hb); clear hb hbox hg; obtain ⟨zx0, zx1, zx2, zx3, zx4, zx5, zx6, zx7⟩ := bc8 BX.out)
      | ((with_reducible refine gate_callee (f := 28) rfl ?_); refine goesL_ (some 9) rfl rfl Try.func28 (by kernel_rfl) rfl #[.agg #[.int .i64 x.f0, .string x.f1, .string x.f2, .string x.f3, .slice A4 x.f4.length c4, .slice A5 x.f5.length c5, .slice A6 x.f6.length c6, .string x.f7]] rfl mA ?_; (with_reducible refine (impl_cloneNode.callsD k x.f0 x.f1 x.f2 x.f3 A4 c4 x.f4 A5 c5 x.f5 A6 c6 x.f6 x.f7 y0 y1 y2 y3 y4 y5 y6 y7 _ (Kd.C_below HR4.out HB.out) HC4.out (Kd.C_below HR5.out HB.out) HC5.out (Kd.C_below HR6.out HB.out) HC6.out TC.out).mono ?_); rintro e w3 ⟨v4, v5, v6, rfl, h4, h5, h6, hb⟩; refine ⟨_, rfl, ?_⟩; obtain ⟨Nc, hN, h4, h5, h6⟩ : ∃ Nc : Nat, (gR < Nc ∧ Nc ≤ w3.heap.size) ∧ Kd.R k69 69 w3 Nc (fun _ => True) v4 y4 ∧ Kd.R k71 71 w3 Nc (fun _ => True) v5 y5 ∧ Kd.S kD 34 w3 Nc (fun k_ => some k_ ≠ (v4 : Value).ownBlock ∧ some k_ ≠ (v5 : Value).ownBlock) v6 y6 := ⟨_, ⟨blk_lt BR.out, hb.size⟩, h4, h5, h6⟩; have HN := Aside0.mk hN; have D4 := Aside0.mk h4; have D5 := Aside0.mk h5; have D6 := Aside0.mk h6; replace BR := Aside0.mk (blk_below BR.out hb); replace HB := Aside0.mk (below_step HB.out hb); clear h4 h5 h6 hN hb BX zx0 zx1 zx2 zx3 zx4 zx5 zx6 zx7; obtain ⟨B4, d4, e_⟩ := Kd.R_slice D4.out; subst e_; obtain ⟨B5, d5, e_⟩ := Kd.R_slice D5.out; subst e_; obtain ⟨B6, d6, e_⟩ := Kd.S_slice D6.out; subst e_)
      | ((with_reducible refine gate_dst (N := 7) rfl ?_); refine box_event ?hg (N := 7) ?hd (cs := #[.int .i64 0, .string (⟨#[]⟩ : ByteArray), .string (⟨#[]⟩ : ByteArray), .string (⟨#[]⟩ : ByteArray), .slice none 0 0, .slice none 0 0, .slice none 0 0, .string (⟨#[]⟩ : ByteArray)]) (t := 34) ?hr ?_; (case hd => rfl); (case hg => rfl); (case hr => first | (go_simp; done) | (go_simp; rfl)); intro gO hg w1 hbox hb; have BO := Aside0.mk hbox; have HX := Aside0.mk (impl_turnedAt.ch8 (u0 := .int .i64 y0) (u1 := .string y1) (u2 := .string y2) (u3 := .string y3) (u4 := .slice B4 y4.length d4) (u5 := .slice B5 y5.length d5) (u6 := .slice B6 y6.length d6) (u7 := .string y7) hb (Nat.le_of_eq hg.symm)); have GO := Aside0.mk (show w3.heap.size ≤ gO from Nat.le_of_eq hg.symm); have HGR := Aside0.mk (show gR < gO by rw [hg]; exact blk_lt BR.out); obtain ⟨zk0, zk1, zk2, zk3, zk4, zk5, zk6, zk7⟩ := bc8 hbox; obtain ⟨yk0, yk1, yk2, yk3, yk4, yk5, yk6, yk7⟩ := bf8 hbox; clear hb hbox hg)
      | (go_at_fn 30; replace D4 := Aside0.mk (Kd.R_below D4.out HX.out); replace D5 := Aside0.mk (Kd.R_below D5.out HX.out); replace D6 := Aside0.mk (Kd.S_below D6.out HX.out); replace BO := Aside0.mk (put8 (b0 := .int .i64 y0) (b1 := .string y1) (b2 := .string y2) (b3 := .string y3) (b4 := .slice B4 y4.length d4) (b5 := .slice B5 y5.length d5) (b6 := .slice B6 y6.length d6) (b7 := .string y7) BO.out); replace BR := Aside0.mk (blk_below BR.out HX.out); replace HB := Aside0.mk (below_step HB.out HX.out); clear HX zk0 zk1 zk2 zk3 zk4 zk5 zk6 zk7 yk0 yk1 yk2 yk3 yk4 yk5 yk6 yk7; (refine (impl_turnedAt.lit k (⟨y0, y1, y2, y3, y4, y5, y6, y7⟩ : S34) B4 d4 B5 d5 (fun k_ => some k_ ≠ (.slice B4 y4.length d4 : Value).ownBlock ∧ some k_ ≠ (.slice B5 y5.length d5 : Value).ownBlock) B6 d6 i Pl Al cl l gi gl s _ (impl_turnedAt.vb (b := 0) (Kd.R_V (kD_toR D6.out)) (Below.refl _ _)) (impl_turnedAt.vb HL.out HB.out) (blk_below HGI.out HB.out) (blk_below HGL.out HB.out) TS.out).mono ?_); rintro e w6 ⟨v6, rfl, h6, hb⟩; have O4 := Aside0.mk (Kd.R_lt D4.out); have O5 := Aside0.mk (Kd.R_lt D5.out); obtain ⟨N6, hN6, h6⟩ : ∃ N6 : Nat, (gR < N6 ∧ w.heap.size ≤ N6 ∧ (∀ k_, (.slice B4 y4.length d4 : Value).ownBlock = some k_ → k_ < N6) ∧ (∀ k_, (.slice B5 y5.length d5 : Value).ownBlock = some k_ → k_ < N6)) ∧ Kd.S kD 34 w6 N6 (fun _ => True) v6 s := ⟨_, ⟨blk_lt BR.out, HB.out.size, O4.out, O5.out⟩, h6⟩; have HN6 := Aside0.mk hN6; have H6 := Aside0.mk h6; replace D4 := Aside0.mk (Kd.R_below D4.out hb); replace D5 := Aside0.mk (Kd.R_below D5.out hb); replace BR := Aside0.mk (blk_below BR.out hb); replace HB := Aside0.mk (below_step HB.out hb); clear h6 hb hN6 D6 BO O4 O5; obtain ⟨E6, f6, e_⟩ := Kd.S_slice H6.out; subst e_; obtain ⟨zr0, zr1, zr2, zr3, zr4, zr5, zr6, zr7⟩ := bc8 BR.out; obtain ⟨yr0, yr1, yr2, yr3, yr4, yr5, yr6, yr7⟩ := bf8 BR.out))
    refine bodyPost_ret (results_cell_row rfl _ _ gR 34 #[.int .i64 y0, .string y1, .string y2, .string y3, .slice B4 y4.length d4, .slice B5 y5.length d5, .slice E6 s.length f6, .string y7] (0, 0) _ rfl (put8 BR.out) Try.underlying34 rfl (by kernel_rfl)) rfl ?_
    exact ⟨_, _, _, rfl, Kd.R_lower (impl_turnedAt.finR (u0 := .int .i64 y0) (u1 := .string y1) (u2 := .string y2) (u3 := .string y3) (u4 := .slice B4 y4.length d4) (u5 := .slice B5 y5.length d5) (u6 := .slice E6 s.length f6) (u7 := .string y7) D4.out HN.out.1) (Nat.le_trans GX.out (Nat.le_trans (Nat.le_of_lt GR.out) (Nat.le_of_lt HN.out.1))), Kd.R_lower (impl_turnedAt.finR (u0 := .int .i64 y0) (u1 := .string y1) (u2 := .string y2) (u3 := .string y3) (u4 := .slice B4 y4.length d4) (u5 := .slice B5 y5.length d5) (u6 := .slice E6 s.length f6) (u7 := .string y7) D5.out HN.out.1) (Nat.le_trans GX.out (Nat.le_trans (Nat.le_of_lt GR.out) (Nat.le_of_lt HN.out.1))), Kd.S_lower (Kd.S_mono (Kd.S_bound (impl_turnedAt.finS (u0 := .int .i64 y0) (u1 := .string y1) (u2 := .string y2) (u3 := .string y3) (u4 := .slice B4 y4.length d4) (u5 := .slice B5 y5.length d5) (u6 := .slice E6 s.length f6) (u7 := .string y7) H6.out HN6.out.1)) (fun k_ h_ => ⟨fun e_ => Nat.not_lt.2 h_.2.1 (HN6.out.2.2.1 k_ e_.symm), fun e_ => Nat.not_lt.2 h_.2.1 (HN6.out.2.2.2 k_ e_.symm)⟩)) HN6.out.2.1, impl_turnedAt.ch8 HB.out (Nat.le_trans GX.out (Nat.le_of_lt GR.out))⟩
  | cons p ps =>
    obtain ⟨pc_, h⟩ := if_som h
    obtain ⟨p0, p1⟩ := pc_
    replace h := Option.bind_eq_some_iff.1 h
    obtain ⟨y, hy, h⟩ := h
    simp only [Option.some.injEq] at h
    subst h
    have TY := Aside0.mk hy
    clear hy
    obtain ⟨pa, hpa⟩ : ∃ pa : List Int, pa = p :: ps := ⟨_, rfl⟩
    rw [← hpa] at HRp HCp ⊢
    have hl1 : pa.length = ps.length + 1 := by rw [hpa]; rfl
    have hl0 : ((pa.length : Int) == 0) = false := beq_eq_false_iff_ne.mpr (by omega)
    have HL1 := Aside0.mk hl1
    have HPA := Aside0.mk hpa
    clear hl1 hpa
    go_enter Try.func29, Try.ntmps29
    go_upto_region 4 with (first
      | ((with_reducible refine gate_dst (N := 3) rfl ?_); refine box_event ?hg (N := 3) ?hd (cs := #[.int .i64 x.f0, .string x.f1, .string x.f2, .string x.f3, .slice A4 x.f4.length c4, .slice A5 x.f5.length c5, .slice A6 x.f6.length c6, .string x.f7]) (t := 34) ?hr ?_; (case hd => rfl); (case hg => rfl); (case hr => first | (go_simp; done) | (go_simp; rfl)); intro gx hg w1 hbox hb; have BX := Aside0.mk hbox; have GX := Aside0.mk (show w.heap.size ≤ gx from Nat.le_of_eq hg.symm); replace HB := Aside0.mk (below_step HB.out hb); clear hb hbox hg)
      | ((with_reducible refine gate_dst (N := 6) rfl ?_); refine box_event ?hg (N := 6) ?hd (cs := #[.int .i64 0, .string (⟨#[]⟩ : ByteArray), .string (⟨#[]⟩ : ByteArray), .string (⟨#[]⟩ : ByteArray), .slice none 0 0, .slice none 0 0, .slice none 0 0, .string (⟨#[]⟩ : ByteArray)]) (t := 34) ?hr ?_; (case hd => rfl); (case hg => rfl); (case hr => first | (go_simp; done) | (go_simp; rfl)); intro gR hg w1 hbox hb; have BR := Aside0.mk hbox; have GR := Aside0.mk (show gx < gR by rw [hg]; exact blk_lt BX.out); replace BX := Aside0.mk (blk_below BX.out hb); replace HB := Aside0.mk (below_step HB.out hb); clear hb hbox hg; obtain ⟨zx0, zx1, zx2, zx3, zx4, zx5, zx6, zx7⟩ := bc8 BX.out)
      | ((with_reducible refine gate_callee (f := 28) rfl ?_); refine goesL_ (some 9) rfl rfl Try.func28 (by kernel_rfl) rfl #[.agg #[.int .i64 x.f0, .string x.f1, .string x.f2, .string x.f3, .slice A4 x.f4.length c4, .slice A5 x.f5.length c5, .slice A6 x.f6.length c6, .string x.f7]] rfl mA ?_; (with_reducible refine (impl_cloneNode.callsD k x.f0 x.f1 x.f2 x.f3 A4 c4 x.f4 A5 c5 x.f5 A6 c6 x.f6 x.f7 y0 y1 y2 y3 y4 y5 y6 y7 _ (Kd.C_below HR4.out HB.out) HC4.out (Kd.C_below HR5.out HB.out) HC5.out (Kd.C_below HR6.out HB.out) HC6.out TC.out).mono ?_); rintro e w3 ⟨v4, v5, v6, rfl, h4, h5, h6, hb⟩; refine ⟨_, rfl, ?_⟩; obtain ⟨Nc, hN, h4, h5, h6⟩ : ∃ Nc : Nat, (gR < Nc ∧ Nc ≤ w3.heap.size) ∧ Kd.R k69 69 w3 Nc (fun _ => True) v4 y4 ∧ Kd.R k71 71 w3 Nc (fun _ => True) v5 y5 ∧ Kd.S kD 34 w3 Nc (fun k_ => some k_ ≠ (v4 : Value).ownBlock ∧ some k_ ≠ (v5 : Value).ownBlock) v6 y6 := ⟨_, ⟨blk_lt BR.out, hb.size⟩, h4, h5, h6⟩; have HN := Aside0.mk hN; have D4 := Aside0.mk h4; have D5 := Aside0.mk h5; have D6 := Aside0.mk h6; replace BR := Aside0.mk (blk_below BR.out hb); replace HB := Aside0.mk (below_step HB.out hb); clear h4 h5 h6 hN hb BX zx0 zx1 zx2 zx3 zx4 zx5 zx6 zx7; obtain ⟨B4, d4, e_⟩ := Kd.R_slice D4.out; subst e_; obtain ⟨B5, d5, e_⟩ := Kd.R_slice D5.out; subst e_; obtain ⟨B6, d6, e_⟩ := Kd.S_slice D6.out; subst e_)
      | ((with_reducible refine gate_dst (N := 7) rfl ?_); refine box_event ?hg (N := 7) ?hd (cs := #[.int .i64 0, .string (⟨#[]⟩ : ByteArray), .string (⟨#[]⟩ : ByteArray), .string (⟨#[]⟩ : ByteArray), .slice none 0 0, .slice none 0 0, .slice none 0 0, .string (⟨#[]⟩ : ByteArray)]) (t := 34) ?hr ?_; (case hd => rfl); (case hg => rfl); (case hr => first | (go_simp; done) | (go_simp; rfl)); intro gO hg w1 hbox hb; have BO := Aside0.mk hbox; have HX := Aside0.mk (impl_turnedAt.ch8 (u0 := .int .i64 y0) (u1 := .string y1) (u2 := .string y2) (u3 := .string y3) (u4 := .slice B4 y4.length d4) (u5 := .slice B5 y5.length d5) (u6 := .slice B6 y6.length d6) (u7 := .string y7) hb (Nat.le_of_eq hg.symm)); have GO := Aside0.mk (show w3.heap.size ≤ gO from Nat.le_of_eq hg.symm); have HGR := Aside0.mk (show gR < gO by rw [hg]; exact blk_lt BR.out); obtain ⟨zk0, zk1, zk2, zk3, zk4, zk5, zk6, zk7⟩ := bc8 hbox; obtain ⟨yk0, yk1, yk2, yk3, yk4, yk5, yk6, yk7⟩ := bf8 hbox; clear hb hbox hg))
    try simp only [Act.put, sT, sZ, sS, i64_w, i32_w]
    replace D4 := Aside0.mk (Kd.R_below D4.out HX.out)
    replace D5 := Aside0.mk (Kd.R_below D5.out HX.out)
    replace D6 := Aside0.mk (Kd.S_mono (ok' := (fun k_ => (some k_ ≠ (.slice B4 y4.length d4 : Value).ownBlock ∧ some k_ ≠ (.slice B5 y5.length d5 : Value).ownBlock) ∧ k_ ≠ gO)) (Kd.S_old D6.out HX.out) (fun k_ h_ => ⟨h_.1, Nat.ne_of_lt (Nat.lt_of_lt_of_le h_.2 GO.out)⟩))
    replace BO := Aside0.mk (put8 (b0 := .int .i64 y0) (b1 := .string y1) (b2 := .string y2) (b3 := .string y3) (b4 := .slice B4 y4.length d4) (b5 := .slice B5 y5.length d5) (b6 := .slice B6 y6.length d6) (b7 := .string y7) BO.out)
    replace BR := Aside0.mk (blk_below BR.out HX.out)
    replace HB := Aside0.mk (below_step HB.out HX.out)
    clear HX zk0 zk1 zk2 zk3 zk4 zk5 zk6 zk7 yk0 yk1 yk2 yk3 yk4 yk5 yk6 yk7
    generalize World.setCell _ _ _ = w8 at D4 D5 D6 BO BR HB ⊢
    have hl1 := HL1.out
    have hpa := HPA.out
    obtain ⟨ad, cc, eA, hcl_, hK_, hcc⟩ := Kd.C_get (Kd.C_below HRp.out HB.out) 0 0 (by omega) (by omega)
    cases hK_
    subst eA
    have hpv : pa.getD (Int.toNat 0) 0 = p := by rw [hpa]; rfl
    have zp : World.cell? w8 ad = some (.int .i64 p) := by rw [← hpv]; exact hcc 0 _ rfl
    clear hcc hcl_ hpv
    obtain ⟨i0, hi0, -, hsz, -⟩ := info_parts info3
    have hcut := cut_from (P := Try.prog) 27 3 .i64 Try.underlying27 hi0 1 hsz (some ad) pa.length cp 1 (by omega) (by omega)
    have hdr := Kd.C_drop (c := cp) (Kd.C_below HRp.out HB.out) (m := (1 : Int).toNat) (by show 1 ≤ _; omega) HCp.out
    have hps : pa.drop (1 : Int).toNat = ps := by rw [hpa]; rfl
    rw [hps] at hdr
    obtain ⟨A', hA'⟩ : ∃ A1, A1 = (if cp = (1 : Int).toNat then some ad else (some ad : Option Addr).map (·.add ((1 : Int).toNat * 1))) := ⟨_, rfl⟩
    obtain ⟨c', hc'⟩ : ∃ c1, c1 = cp - (1 : Int).toNat := ⟨_, rfl⟩
    have hn' : pa.length - (1 : Int).toNat = ps.length := by show pa.length - 1 = _; omega
    rw [hn', ← hA', ← hc'] at hcut
    replace hdr : Kd.C (Kd.int .i64) w8 A' ps.length ps := by rw [hA']; exact hdr
    have HPS := Aside0.mk hdr
    have HCS := Aside0.mk (show ps.length ≤ c' by have := HCp.out; rw [hc']; show ps.length ≤ cp - 1; omega)
    clear hdr hA' hc' hn' hps hi0 hsz
    have q0 : (0 : Int) < (pa.length : Int) := by omega
    have q1 := eq_true (show 0 < pa.length by omega)
    clear hl1 hpa
    obtain ⟨gk, cap, ev, hgk1, hgk2, -⟩ := Kd.S_form D6.out (by omega)
    injection ev with ev1 ev2 ev3
    subst ev1 ev3
    clear ev2
    obtain ⟨oki, c, hcl, hM, hcc, -, -, -⟩ := Kd.S_elem D6.out z34 p p0 p1
    obtain ⟨e4, e5, e6, o6, rfl, hD⟩ := kD_open hM
    have E4 := Aside0.mk hD.1
    have E5 := Aside0.mk hD.2.1
    have E6 := Aside0.mk hD.2.2.1
    clear hD hM hcl
    obtain ⟨F4, g4, e_⟩ := Kd.R_slice E4.out; subst e_
    obtain ⟨F5, g5, e_⟩ := Kd.R_slice E5.out; subst e_
    obtain ⟨F6, g6, e_⟩ := Kd.S_slice E6.out; subst e_
    have x0 : World.cell? (World.drew w8) ⟨gk, p.toNat * 8, none⟩ = some (.int .i64 (rd_T34 y6 p).f0) := hcc 0 _ rfl
    have x1 : World.cell? (World.drew w8) ⟨gk, p.toNat * 8 + 1, none⟩ = some (.string (rd_T34 y6 p).f1) := hcc 1 _ rfl
    have x2 : World.cell? (World.drew w8) ⟨gk, p.toNat * 8 + 2, none⟩ = some (.string (rd_T34 y6 p).f2) := hcc 2 _ rfl
    have x3 : World.cell? (World.drew w8) ⟨gk, p.toNat * 8 + 3, none⟩ = some (.string (rd_T34 y6 p).f3) := hcc 3 _ rfl
    have x4 : World.cell? (World.drew w8) ⟨gk, p.toNat * 8 + 4, none⟩ = some (.slice F4 (rd_T34 y6 p).f4.length g4) := hcc 4 _ rfl
    have x5 : World.cell? (World.drew w8) ⟨gk, p.toNat * 8 + 5, none⟩ = some (.slice F5 (rd_T34 y6 p).f5.length g5) := hcc 5 _ rfl
    have x6 : World.cell? (World.drew w8) ⟨gk, p.toNat * 8 + 6, none⟩ = some (.slice F6 (rd_T34 y6 p).f6.length g6) := hcc 6 _ rfl
    have x7 : World.cell? (World.drew w8) ⟨gk, p.toNat * 8 + 7, none⟩ = some (.string (rd_T34 y6 p).f7) := hcc 7 _ rfl
    clear hcc
    replace zp : World.cell? (World.drew w8) ad = some (.int .i64 p) := zp
    have P01 := Aside0.mk (And.intro p0 p1)
    replace p0 := eq_true p0
    replace p1 := eq_true p1
    replace q0 := eq_true q0
    have hdw := below_drew (Below.refl w8.heap.size w8)
    replace D4 := Aside0.mk (Kd.R_below D4.out hdw)
    replace D5 := Aside0.mk (Kd.R_below D5.out hdw)
    replace D6 := Aside0.mk (Kd.S_below D6.out hdw)
    replace E4 := Aside0.mk (Kd.R_below E4.out hdw)
    replace E5 := Aside0.mk (Kd.R_below E5.out hdw)
    replace E6 := Aside0.mk (Kd.S_below E6.out hdw)
    replace BO := Aside0.mk (blk_below BO.out hdw)
    replace BR := Aside0.mk (blk_below BR.out hdw)
    replace HPS := Aside0.mk (Kd.C_below HPS.out hdw)
    replace HB := Aside0.mk (below_step HB.out hdw)
    clear hdw hl0
    refine start_ (n := 18) (S := fun w' => w'.cell? ⟨gO, 6, none⟩ = some (.slice (some ⟨gk, 0, none⟩) y6.length d6) ∧ w'.cell? ad = some (.int .i64 p) ∧ w'.cell? ⟨gk, p.toNat * 8, none⟩ = some (.int .i64 (rd_T34 y6 p).f0) ∧ w'.cell? ⟨gk, p.toNat * 8 + 1, none⟩ = some (.string (rd_T34 y6 p).f1) ∧ w'.cell? ⟨gk, p.toNat * 8 + 2, none⟩ = some (.string (rd_T34 y6 p).f2) ∧ w'.cell? ⟨gk, p.toNat * 8 + 3, none⟩ = some (.string (rd_T34 y6 p).f3) ∧ w'.cell? ⟨gk, p.toNat * 8 + 4, none⟩ = some (.slice F4 (rd_T34 y6 p).f4.length g4) ∧ w'.cell? ⟨gk, p.toNat * 8 + 5, none⟩ = some (.slice F5 (rd_T34 y6 p).f5.length g5) ∧ w'.cell? ⟨gk, p.toNat * 8 + 6, none⟩ = some (.slice F6 (rd_T34 y6 p).f6.length g6) ∧ w'.cell? ⟨gk, p.toNat * 8 + 7, none⟩ = some (.string (rd_T34 y6 p).f7)) (ds := [17]) #[false, false, false, false, false, false, false, false, false, false, false, false, false, false, false, false, false, false] (by kernel_rfl) rfl rfl ⟨(blk_cell BO.out 6).trans rfl, zp, x0, x1, x2, x3, x4, x5, x6, x7⟩ (fun hHeld => ?_)
    generalize World.drew _ = w5 at D4 D5 D6 E4 E5 E6 BO BR HPS HB zp x0 x1 x2 x3 x4 x5 x6 x7 hHeld ⊢
    refine pure_ (i := 0) (N := some 16) (v := ?_) (a' := ?_) #[true, false, false, false, false, false, false, false, false, false, false, false, false, false, false, false, false, false] rfl rfl (by kernel_rfl) (fun _ _ _ h => h) (Or.inl ⟨by rfl, ?_⟩) ?_ ?_
    rotate_left
    · intro w'
      go_simp
      with_reducible rfl
    rotate_left
    · simp only [Act.put, sT, sZ, sS, i64_w, i32_w]
      rfl
    refine take_ (i := 1) (N := some 17) (v := ?_) (a' := ?_) #[true, true, false, false, false, false, false, false, false, false, false, false, false, false, false, false, false, false] rfl rfl (by kernel_rfl) (fun _ _ _ h => h) (Or.inl ⟨by rfl, ?_⟩) hHeld ?_ ?_
    rotate_left
    · rintro w' ⟨q0_, q1_, q2_, q3_, q4_, q5_, q6_, q7_, q8_, q9_⟩
      go_simp
      with_reducible rfl
    rotate_left
    · simp only [Act.put, sT, sZ, sS, i64_w, i32_w]
      rfl
    refine pure_ (i := 2) (N := some 18) (v := ?_) (a' := ?_) #[true, true, true, false, false, false, false, false, false, false, false, false, false, false, false, false, false, false] rfl rfl (by kernel_rfl) (fun _ _ _ h => h) (Or.inl ⟨by rfl, ?_⟩) ?_ ?_
    rotate_left
    · intro w'
      go_simp
      with_reducible rfl
    rotate_left
    · simp only [Act.put, sT, sZ, sS, i64_w, i32_w]
      rfl
    refine pure_ (i := 3) (N := some 19) (v := ?_) (a' := ?_) #[true, true, true, true, false, false, false, false, false, false, false, false, false, false, false, false, false, false] rfl rfl (by kernel_rfl) (fun _ _ _ h => h) (Or.inl ⟨by rfl, ?_⟩) ?_ ?_
    rotate_left
    · intro w'
      go_simp
      with_reducible rfl
    rotate_left
    · simp only [Act.put, sT, sZ, sS, i64_w, i32_w]
      rfl
    refine take_ (i := 4) (N := some 20) (v := ?_) (a' := ?_) #[true, true, true, true, true, false, false, false, false, false, false, false, false, false, false, false, false, false] rfl rfl (by kernel_rfl) (fun _ _ _ h => h) (Or.inl ⟨by rfl, ?_⟩) hHeld ?_ ?_
    rotate_left
    · rintro w' ⟨q0_, q1_, q2_, q3_, q4_, q5_, q6_, q7_, q8_, q9_⟩
      go_simp
      with_reducible rfl
    rotate_left
    · simp only [Act.put, sT, sZ, sS, i64_w, i32_w]
      rfl
    refine pure_ (i := 5) (N := some 21) (v := ?_) (a' := ?_) #[true, true, true, true, true, true, false, false, false, false, false, false, false, false, false, false, false, false] rfl rfl (by kernel_rfl) (fun _ _ _ h => h) (Or.inl ⟨by rfl, ?_⟩) ?_ ?_
    rotate_left
    · intro w'
      go_simp
      with_reducible rfl
    rotate_left
    · simp only [Act.put, sT, sZ, sS, i64_w, i32_w]
      rfl
    refine take_ (i := 6) (N := some 22) (v := ?_) (a' := ?_) #[true, true, true, true, true, true, true, false, false, false, false, false, false, false, false, false, false, false] rfl rfl (by kernel_rfl) (fun _ _ _ h => h) (Or.inl ⟨by rfl, ?_⟩) hHeld ?_ ?_
    rotate_left
    · rintro w' ⟨q0_, q1_, q2_, q3_, q4_, q5_, q6_, q7_, q8_, q9_⟩
      go_simp
      with_reducible rfl
    rotate_left
    · simp only [Act.put, sT, sZ, sS, i64_w, i32_w]
      rfl
    refine pure_ (i := 7) (N := some 23) (v := ?_) (a' := ?_) #[true, true, true, true, true, true, true, true, false, false, false, false, false, false, false, false, false, false] rfl rfl (by kernel_rfl) (fun _ _ _ h => h) (Or.inl ⟨by rfl, ?_⟩) ?_ ?_
    rotate_left
    · intro w'
      go_simp
      with_reducible rfl
    rotate_left
    · simp only [Act.put, sT, sZ, sS, i64_w, i32_w]
      rfl
    refine pure_ (i := 8) (N := some 24) (v := ?_) (a' := ?_) #[true, true, true, true, true, true, true, true, true, false, false, false, false, false, false, false, false, false] rfl rfl (by kernel_rfl) (fun _ _ _ h => h) (Or.inl ⟨by rfl, ?_⟩) ?_ ?_
    rotate_left
    · intro w'
      go_simp
      with_reducible rfl
    rotate_left
    · simp only [Act.put, sT, sZ, sS, i64_w, i32_w]
      rfl
    refine take_ (i := 9) (N := some 25) (v := ?_) (a' := ?_) #[true, true, true, true, true, true, true, true, true, true, false, false, false, false, false, false, false, false] rfl rfl (by kernel_rfl) (fun _ _ _ h => h) (Or.inl ⟨by rfl, ?_⟩) hHeld ?_ ?_
    rotate_left
    · rintro w' ⟨q0_, q1_, q2_, q3_, q4_, q5_, q6_, q7_, q8_, q9_⟩
      go_simp
      with_reducible rfl
    rotate_left
    · simp only [Act.put, sT, sZ, sS, i64_w, i32_w]
      rfl
    refine pure_ (i := 10) (N := some 26) (v := ?_) (a' := ?_) #[true, true, true, true, true, true, true, true, true, true, true, false, false, false, false, false, false, false] rfl rfl (by kernel_rfl) (fun _ _ _ h => h) (Or.inl ⟨by rfl, ?_⟩) ?_ ?_
    rotate_left
    · intro w'
      go_simp
      with_reducible rfl
    rotate_left
    · simp only [Act.put, sT, sZ, sS, i64_w, i32_w]
      rfl
    refine take_ (i := 11) (N := some 27) (v := ?_) (a' := ?_) #[true, true, true, true, true, true, true, true, true, true, true, true, false, false, false, false, false, false] rfl rfl (by kernel_rfl) (fun _ _ _ h => h) (Or.inl ⟨by rfl, ?_⟩) hHeld ?_ ?_
    rotate_left
    · rintro w' ⟨q0_, q1_, q2_, q3_, q4_, q5_, q6_, q7_, q8_, q9_⟩
      go_simp
      with_reducible rfl
    rotate_left
    · simp only [Act.put, sT, sZ, sS, i64_w, i32_w]
      rfl
    refine pure_ (i := 12) (N := some 28) (v := ?_) (a' := ?_) #[true, true, true, true, true, true, true, true, true, true, true, true, true, false, false, false, false, false] rfl rfl (by kernel_rfl) (fun _ _ _ h => h) (Or.inl ⟨by rfl, ?_⟩) ?_ ?_
    rotate_left
    · intro w'
      go_simp
      with_reducible rfl
    rotate_left
    · simp only [Act.put, sT, sZ, sS, i64_w, i32_w]
      rfl
    refine pure_ (i := 13) (N := some 29) (v := ?_) (a' := ?_) #[true, true, true, true, true, true, true, true, true, true, true, true, true, true, false, false, false, false] rfl rfl (by kernel_rfl) (fun _ _ _ h => h) (Or.inl ⟨by rfl, ?_⟩) ?_ ?_
    rotate_left
    · intro w'
      go_simp
      with_reducible rfl
    rotate_left
    · simp only [Act.put, sT, sZ, sS, i64_w, i32_w]
      rfl
    refine pure_ (i := 14) (N := some 30) (v := ?_) (a' := ?_) #[true, true, true, true, true, true, true, true, true, true, true, true, true, true, true, false, false, false] rfl rfl (by kernel_rfl) (fun _ _ _ h => h) (Or.inl ⟨by rfl, ?_⟩) ?_ ?_
    rotate_left
    · intro w'
      go_simp
      with_reducible rfl
    rotate_left
    · simp only [Act.put, sT, sZ, sS, i64_w, i32_w]
      rfl
    refine one_ (i := 15) (N := some 31) #[true, true, true, true, true, true, true, true, true, true, true, true, true, true, true, true, false, false] rfl rfl (by kernel_rfl) (by decide) (fun K hK => ?_)
    refine goes_ Try.func29 (by kernel_rfl) rfl #[.agg #[.int .i64 (rd_T34 y6 p).f0, .string (rd_T34 y6 p).f1, .string (rd_T34 y6 p).f2, .string (rd_T34 y6 p).f3, .slice F4 (rd_T34 y6 p).f4.length g4, .slice F5 (rd_T34 y6 p).f5.length g5, .slice F6 (rd_T34 y6 p).f6.length g6, .string (rd_T34 y6 p).f7], .slice A' ps.length c', .func (.func 30) #[] #[.pointer (some ⟨gi, 0, none⟩), .pointer (some ⟨gl, 0, none⟩)]] (by rfl) rfl rfl mA ?_
    refine (IH.out (rd_T34 y6 p) F4 g4 F5 g5 F6 g6 A' c' ps i Pl Al cl l gi gl y _ (Kd.R_reads' E4.out).2.2 (Kd.R_reads' E4.out).2.1 (Kd.R_reads' E5.out).2.2 (Kd.R_reads' E5.out).2.1 (kD_C (Kd.S_reads' E6.out).2.2) (Kd.S_reads' E6.out).2.1 HPS.out HCS.out (impl_turnedAt.vb HL.out HB.out) (blk_below HGI.out HB.out) (blk_below HGL.out HB.out) TY.out).mono ?_
    rintro e w7 ⟨v4, v5, v6, rfl, h4, h5, h6, hb⟩
    refine ⟨_, rfl, ?_⟩
    obtain ⟨N2, hN2, h4, h5, h6, h7⟩ : ∃ N2 : Nat, (gk < N2 ∧ Nc ≤ N2 ∧ gO < N2 ∧ (∀ k_, (.slice B4 y4.length d4 : Value).ownBlock = some k_ → k_ < N2) ∧ (∀ k_, (.slice B5 y5.length d5 : Value).ownBlock = some k_ → k_ < N2)) ∧ Kd.R k69 69 w7 N2 (fun _ => True) v4 y.f4 ∧ Kd.R k71 71 w7 N2 (fun _ => True) v5 y.f5 ∧ Kd.S kD 34 w7 N2 (fun k_ => some k_ ≠ (v4 : Value).ownBlock ∧ some k_ ≠ (v5 : Value).ownBlock) v6 y.f6 ∧ Kd.S kD 34 w7 Nc (fun k_ => (fun k_ => (some k_ ≠ (.slice B4 y4.length d4 : Value).ownBlock ∧ some k_ ≠ (.slice B5 y5.length d5 : Value).ownBlock) ∧ k_ ≠ gO) k_ ∧ k_ < N2) (.slice (some ⟨gk, 0, none⟩) y6.length d6) y6 := ⟨_, ⟨Kd.S_lt D6.out gk rfl, Nat.le_trans (Kd.S_base D6.out gk rfl) (Nat.le_of_lt (Kd.S_lt D6.out gk rfl)), blk_lt BO.out, Kd.R_lt D4.out, Kd.R_lt D5.out⟩, h4, h5, h6, Kd.S_old D6.out hb⟩
    have HN2 := Aside0.mk hN2
    have G4 := Aside0.mk h4
    have G5 := Aside0.mk h5
    have G6 := Aside0.mk h6
    replace D6 := Aside0.mk h7
    replace x0 := pw_cell_below hb x0
    replace x1 := pw_cell_below hb x1
    replace x2 := pw_cell_below hb x2
    replace x3 := pw_cell_below hb x3
    replace x4 := pw_cell_below hb x4
    replace x5 := pw_cell_below hb x5
    replace x6 := pw_cell_below hb x6
    replace x7 := pw_cell_below hb x7
    replace zp := pw_cell_below hb zp
    replace D4 := Aside0.mk (Kd.R_below D4.out hb)
    replace D5 := Aside0.mk (Kd.R_below D5.out hb)
    replace BO := Aside0.mk (blk_below BO.out hb)
    replace BR := Aside0.mk (blk_below BR.out hb)
    replace HB := Aside0.mk (below_step HB.out hb)
    clear h4 h5 h6 h7 hb hN2 E4 E5 E6 HPS
    obtain ⟨Q4, m4, e_⟩ := Kd.R_slice G4.out; subst e_
    obtain ⟨Q5, m5, e_⟩ := Kd.R_slice G5.out; subst e_
    obtain ⟨Q6, m6, e_⟩ := Kd.S_slice G6.out; subst e_
    refine hK.out _ _ ⟨(blk_cell BO.out 6).trans rfl, zp, x0, x1, x2, x3, x4, x5, x6, x7⟩ (fun hHeld => ?_)
    clear hK K
    refine norm_ (a' := ?_) ?_ ?_
    rotate_left
    · show Act.put _ (some 31) _ = _
      simp only [Act.put, sT, sZ, sS, i64_w, i32_w]
      rfl
    refine pure_ (i := 16) (N := some 32) (v := ?_) (a' := ?_) #[true, true, true, true, true, true, true, true, true, true, true, true, true, true, true, true, true, false] rfl rfl (by kernel_rfl) (fun _ _ _ h => h) (Or.inl ⟨by rfl, ?_⟩) ?_ ?_
    rotate_left
    · intro w'
      go_simp
      with_reducible rfl
    rotate_left
    · simp only [Act.put, sT, sZ, sS, i64_w, i32_w]
      rfl
    obtain ⟨-, -, -, -, -, hfr, -, -⟩ := Kd.S_elem D6.out z34 p P01.out.1 P01.out.2
    have f0 : World.frozen? w7 ⟨gk, p.toNat * 8, none⟩ = false := hfr 0
    have f1 : World.frozen? w7 ⟨gk, p.toNat * 8 + 1, none⟩ = false := hfr 1
    have f2 : World.frozen? w7 ⟨gk, p.toNat * 8 + 2, none⟩ = false := hfr 2
    have f3 : World.frozen? w7 ⟨gk, p.toNat * 8 + 3, none⟩ = false := hfr 3
    have f4 : World.frozen? w7 ⟨gk, p.toNat * 8 + 4, none⟩ = false := hfr 4
    have f5 : World.frozen? w7 ⟨gk, p.toNat * 8 + 5, none⟩ = false := hfr 5
    have f6 : World.frozen? w7 ⟨gk, p.toNat * 8 + 6, none⟩ = false := hfr 6
    have f7 : World.frozen? w7 ⟨gk, p.toNat * 8 + 7, none⟩ = false := hfr 7
    clear hfr
    refine last_ (i := 17) (N := none) #[true, true, true, true, true, true, true, true, true, true, true, true, true, true, true, true, true, true] rfl rfl (by kernel_rfl) (by decide) (fun K hK => ?_)
    refine skip_ (w1 := ?_) (by rfl) rfl ?_ ?_
    rotate_left
    · go_simp
      rfl
    refine hK.out _ _ ?_
    clear hK K
    refine done_ (by kernel_rfl) ?_
    clear hHeld
    go_upto_region 5 with (fail)
    try simp only [Act.put, sT, sZ, sS, i64_w, i32_w]
    clear x0 x1 x2 x3 x4 x5 x6 x7 zp f0 f1 f2 f3 f4 f5 f6 f7
    obtain ⟨hS, hg⟩ := impl_turnedAt.put (ok := (fun k_ => some k_ ≠ (.slice B4 y4.length d4 : Value).ownBlock ∧ some k_ ≠ (.slice B5 y5.length d5 : Value).ownBlock)) (fun k_ h_ => ⟨fun e_ => Nat.not_lt.2 h_ (HN2.out.2.2.2.1 k_ e_.symm), fun e_ => Nat.not_lt.2 h_ (HN2.out.2.2.2.2 k_ e_.symm)⟩) (Kd.S_mono D6.out (fun _ h_ => ⟨h_.1.1, h_.2⟩)) HN2.out.1 p P01.out.1 P01.out.2 y HN2.out.2.1 G4.out G5.out G6.out
    have hk := (Kd.S_R D6.out).1 gk rfl
    have hkb := Kd.S_base D6.out gk rfl
    have S6 : Aside0 (Kd.S kD 34 (World.setCell (World.setCell (World.setCell (World.setCell (World.setCell (World.setCell (World.setCell (World.setCell w7 ⟨gk, p.toNat * 8, none⟩ (.int .i64 y.f0)) ⟨gk, p.toNat * 8 + 1, none⟩ (.string y.f1)) ⟨gk, p.toNat * 8 + 2, none⟩ (.string y.f2)) ⟨gk, p.toNat * 8 + 3, none⟩ (.string y.f3)) ⟨gk, p.toNat * 8 + 4, none⟩ (.slice Q4 y.f4.length m4)) ⟨gk, p.toNat * 8 + 5, none⟩ (.slice Q5 y.f5.length m5)) ⟨gk, p.toNat * 8 + 6, none⟩ (.slice Q6 y.f6.length m6)) ⟨gk, p.toNat * 8 + 7, none⟩ (.string y.f7)) Nc (fun k_ => some k_ ≠ (.slice B4 y4.length d4 : Value).ownBlock ∧ some k_ ≠ (.slice B5 y5.length d5 : Value).ownBlock) (.slice (some ⟨gk, 0, none⟩) y6.length d6) (y6.set p.toNat y)) := ⟨hS⟩
    replace hg : w7.grownBy (World.setCell (World.setCell (World.setCell (World.setCell (World.setCell (World.setCell (World.setCell (World.setCell w7 ⟨gk, p.toNat * 8, none⟩ (.int .i64 y.f0)) ⟨gk, p.toNat * 8 + 1, none⟩ (.string y.f1)) ⟨gk, p.toNat * 8 + 2, none⟩ (.string y.f2)) ⟨gk, p.toNat * 8 + 3, none⟩ (.string y.f3)) ⟨gk, p.toNat * 8 + 4, none⟩ (.slice Q4 y.f4.length m4)) ⟨gk, p.toNat * 8 + 5, none⟩ (.slice Q5 y.f5.length m5)) ⟨gk, p.toNat * 8 + 6, none⟩ (.slice Q6 y.f6.length m6)) ⟨gk, p.toNat * 8 + 7, none⟩ (.string y.f7)) (some gk) := hg
    replace D4 := Aside0.mk (Kd.R_grown1 D4.out rfl hg hk.1.1.1)
    replace D5 := Aside0.mk (Kd.R_grown1 D5.out rfl hg hk.1.1.2)
    replace BO := Aside0.mk (blk_grown BO.out hg (fun e_ => hk.1.2 (by injection e_ with e_; exact e_.symm)))
    replace BR := Aside0.mk (blk_grown BR.out hg (fun e_ => by injection e_ with e_; have := HN.out.1; omega))
    replace HB := Aside0.mk (pw_below_grown HB.out (some gk) HB.out.size hg (fun k_ e_ => by injection e_ with e_; rw [← e_]; exact Nat.le_trans (Nat.le_trans GX.out (Nat.le_trans (Nat.le_of_lt GR.out) (Nat.le_of_lt HN.out.1))) hkb))
    clear hS hg hk hkb D6 G4 G5 G6
    generalize World.setCell _ _ _ = w9 at S6 D4 D5 BO BR HB ⊢
    obtain ⟨zk0, zk1, zk2, zk3, zk4, zk5, zk6, zk7⟩ := bc8 BO.out
    obtain ⟨zr0, zr1, zr2, zr3, zr4, zr5, zr6, zr7⟩ := bc8 BR.out
    obtain ⟨yr0, yr1, yr2, yr3, yr4, yr5, yr6, yr7⟩ := bf8 BR.out
    go_wp2
    refine bodyPost_ret (results_cell_row rfl _ _ gR 34 #[.int .i64 y0, .string y1, .string y2, .string y3, .slice B4 y4.length d4, .slice B5 y5.length d5, .slice (some ⟨gk, 0, none⟩) y6.length d6, .string y7] (0, 0) _ rfl (put8 BR.out) Try.underlying34 rfl (by kernel_rfl)) rfl ?_
    exact ⟨_, _, _, rfl, Kd.R_lower (impl_turnedAt.finR (u0 := .int .i64 y0) (u1 := .string y1) (u2 := .string y2) (u3 := .string y3) (u4 := .slice B4 y4.length d4) (u5 := .slice B5 y5.length d5) (u6 := .slice (some ⟨gk, 0, none⟩) y6.length d6) (u7 := .string y7) D4.out HN.out.1) (Nat.le_trans GX.out (Nat.le_trans (Nat.le_of_lt GR.out) (Nat.le_of_lt HN.out.1))), Kd.R_lower (impl_turnedAt.finR (u0 := .int .i64 y0) (u1 := .string y1) (u2 := .string y2) (u3 := .string y3) (u4 := .slice B4 y4.length d4) (u5 := .slice B5 y5.length d5) (u6 := .slice (some ⟨gk, 0, none⟩) y6.length d6) (u7 := .string y7) D5.out HN.out.1) (Nat.le_trans GX.out (Nat.le_trans (Nat.le_of_lt GR.out) (Nat.le_of_lt HN.out.1))), Kd.S_lower (impl_turnedAt.finS (u0 := .int .i64 y0) (u1 := .string y1) (u2 := .string y2) (u3 := .string y3) (u4 := .slice B4 y4.length d4) (u5 := .slice B5 y5.length d5) (u6 := .slice (some ⟨gk, 0, none⟩) y6.length d6) (u7 := .string y7) S6.out HN.out.1) (Nat.le_trans GX.out (Nat.le_trans (Nat.le_of_lt GR.out) (Nat.le_of_lt HN.out.1))), impl_turnedAt.ch8 HB.out (Nat.le_trans GX.out (Nat.le_of_lt GR.out))⟩

/-! ### impl_InsertAt: function 10 -/
/-- Where nothing is put in. -/
def impl_InsertAt.bad (ok : Bool) (kind : Int) (n : Int) (i : Int) : Option Bool := if ok = true then if kind = 1 ∨ kind = 0 then (impl_in.f i 0 n).bind fun b => some (!b) else some true else some true
def impl_InsertAt.f (k : Nat) (x : S34) (path : List Int) (i : Int) (l : List S34) : Option (S34 × Bool) := (impl_NodeAt.f k x.f0 x.f1 x.f2 x.f3 x.f4 x.f5 x.f6 x.f7 path).bind fun a => (impl_InsertAt.bad a.2.2.2.2.2.2.2.2 a.1 (a.2.2.2.2.2.2.1.length : Int) i).bind fun b => if b = true then (impl_cloneNode.f k x.f0 x.f1 x.f2 x.f3 x.f4 x.f5 x.f6 x.f7).bind fun c => some (⟨c.1, c.2.1, c.2.2.1, c.2.2.2.1, c.2.2.2.2.1, c.2.2.2.2.2.1, c.2.2.2.2.2.2.1, c.2.2.2.2.2.2.2⟩, false) else (impl_turnedAt.f k x path i l).bind fun y => some (y, true)
theorem impl_InsertAt.callsD (k : Nat) (x : S34) (P4 : Nat → Prop) (A4 : Option Addr) (c4 : Nat) (P5 : Nat → Prop) (A5 : Option Addr) (c5 : Nat) (P6 : Nat → Prop) (A6 : Option Addr) (c6 : Nat) (Ap : Option Addr) (cp : Nat) (path : List Int) (i : Int) (Pl : Nat → Prop) (Al : Option Addr) (cl : Nat) (l : List S34) (r : S34) (rb : Bool) (w : World) (hs4 : Kd.V k69 69 w w.heap.size P4 (.slice A4 x.f4.length c4) x.f4) (hs5 : Kd.V k71 71 w w.heap.size P5 (.slice A5 x.f5.length c5) x.f5) (hs6 : Kd.V k34 34 w w.heap.size P6 (.slice A6 x.f6.length c6) x.f6) (hp : Kd.C (Kd.int .i64) w Ap path.length path) (hcp : path.length ≤ cp) (hL : Kd.V k34 34 w w.heap.size Pl (.slice Al l.length cl) l) (h : impl_InsertAt.f k x path i l = some (r, rb)) :
    Calls Try.prog 10 #[.agg #[.int .i64 x.f0, .string x.f1, .string x.f2, .string x.f3, .slice A4 x.f4.length c4, .slice A5 x.f5.length c5, .slice A6 x.f6.length c6, .string x.f7], .slice Ap path.length cp, .int .i64 i, .slice Al l.length cl] w fun e w' => ∃ v4 v5 v6 : Value, e = .returned (.tuple #[.agg #[.int .i64 r.f0, .string r.f1, .string r.f2, .string r.f3, v4, v5, v6, .string r.f7], .bool rb]) ∧ Kd.R k69 69 w' w.heap.size (fun _ => True) v4 r.f4 ∧ Kd.R k71 71 w' w.heap.size (fun _ => True) v5 r.f5 ∧ Kd.S kD 34 w' w.heap.size (fun k_ => some k_ ≠ (v4 : Value).ownBlock ∧ some k_ ≠ (v5 : Value).ownBlock) v6 r.f6 ∧ Below w.heap.size w w' := by
  unfold impl_InsertAt.f at h
  replace h := Option.bind_eq_some_iff.1 h
  obtain ⟨⟨a0, a1, a2, a3, a4, a5, a6, a7, ak⟩, h1_, h⟩ := h
  dsimp only at h
  replace h := Option.bind_eq_some_iff.1 h
  obtain ⟨bd, h2_, h⟩ := h
  have T1 := Aside0.mk h1_
  have T2 := Aside0.mk h2_
  have TH := Aside0.mk h
  clear h1_ h2_ h
  have HV4 := Aside0.mk hs4
  have HV5 := Aside0.mk hs5
  have HV6 := Aside0.mk hs6
  have HP := Aside0.mk hp
  have HCP := Aside0.mk hcp
  have HL := Aside0.mk hL
  have HB := Aside0.mk (Below.refl w.heap.size w)
  clear hs4 hs5 hs6 hp hcp hL
  have hu34 := Try.underlying34
  go_enter Try.func10, Try.ntmps10
  go_upto_region 2 with (first
      | ((with_reducible refine gate_dst (N := 4) rfl ?_); refine box_event ?hg (N := 4) ?hd (cs := #[.int .i64 x.f0, .string x.f1, .string x.f2, .string x.f3, .slice A4 x.f4.length c4, .slice A5 x.f5.length c5, .slice A6 x.f6.length c6, .string x.f7]) (t := 34) ?hr ?_; (case hd => rfl); (case hg => rfl); (case hr => first | (go_simp; done) | (go_simp; rfl)); intro gx hg w1 hbox hb; have BX := Aside0.mk hbox; have GX := Aside0.mk (show w.heap.size ≤ gx from Nat.le_of_eq hg.symm); replace HB := Aside0.mk (below_step HB.out hb); clear hb hbox hg)
      | ((with_reducible refine gate_dst (N := 6) rfl ?_); refine box_event ?hg (N := 6) ?hd (cs := #[.int .i64 i]) (t := 3) ?hr ?_; (case hd => rfl); (case hg => rfl); (case hr => first | (go_simp; done) | (go_simp; rfl)); intro gi hg w1 hbox hb; have BI := Aside0.mk hbox; replace BX := Aside0.mk (blk_below BX.out hb); replace HB := Aside0.mk (below_step HB.out hb); clear hb hbox hg)
      | ((with_reducible refine gate_dst (N := 7) rfl ?_); refine box_event ?hg (N := 7) ?hd (cs := #[.slice Al l.length cl]) (t := 32) ?hr ?_; (case hd => rfl); (case hg => rfl); (case hr => first | (go_simp; done) | (go_simp; rfl)); intro gl hg w1 hbox hb; have BL := Aside0.mk hbox; replace BX := Aside0.mk (blk_below BX.out hb); replace BI := Aside0.mk (blk_below BI.out hb); replace HB := Aside0.mk (below_step HB.out hb); clear hb hbox hg)
      | ((with_reducible refine gate_dst (N := 8) rfl ?_); refine box_event ?hg (N := 8) ?hd (cs := #[.int .i64 0, .string (⟨#[]⟩ : ByteArray), .string (⟨#[]⟩ : ByteArray), .string (⟨#[]⟩ : ByteArray), .slice none 0 0, .slice none 0 0, .slice none 0 0, .string (⟨#[]⟩ : ByteArray)]) (t := 34) ?hr ?_; (case hd => rfl); (case hg => rfl); (case hr => first | (go_simp; done) | (go_simp; rfl)); intro gR hg w1 hbox hb; have BR := Aside0.mk hbox; have GR := Aside0.mk (show gx < gR by rw [hg]; exact blk_lt BX.out); replace BX := Aside0.mk (blk_below BX.out hb); replace BI := Aside0.mk (blk_below BI.out hb); replace BL := Aside0.mk (blk_below BL.out hb); replace HB := Aside0.mk (below_step HB.out hb); clear hb hbox hg; obtain ⟨zx0, zx1, zx2, zx3, zx4, zx5, zx6, zx7⟩ := bc8 BX.out)
      | ((with_reducible refine gate_callee (f := 26) rfl ?_); refine goesL_ (some 15) rfl rfl Try.func26 (by kernel_rfl) rfl #[.agg #[.int .i64 x.f0, .string x.f1, .string x.f2, .string x.f3, .slice A4 x.f4.length c4, .slice A5 x.f5.length c5, .slice A6 x.f6.length c6, .string x.f7], .slice Ap path.length cp] rfl mA ?_; (with_reducible refine (impl_NodeAt.calls k x.f0 x.f1 x.f2 x.f3 P4 A4 c4 x.f4 P5 A5 c5 x.f5 P6 A6 c6 x.f6 x.f7 Ap cp path a0 a1 a2 a3 a4 a5 a6 a7 ak _ (impl_turnedAt.vb HV4.out HB.out) (impl_turnedAt.vb HV5.out HB.out) (impl_turnedAt.vb HV6.out HB.out) (Kd.C_below HP.out HB.out) HCP.out T1.out).mono ?_); rintro e w5 ⟨v4, v5, v6, rfl, h4, h5, h6, hb⟩; refine ⟨_, rfl, ?_⟩; replace BX := Aside0.mk (blk_below BX.out hb); replace BI := Aside0.mk (blk_below BI.out hb); replace BL := Aside0.mk (blk_below BL.out hb); replace BR := Aside0.mk (blk_below BR.out hb); replace HB := Aside0.mk (below_step HB.out hb); obtain ⟨E4, m4, e_⟩ := Kd.R_slice h4; subst e_; obtain ⟨E5, m5, e_⟩ := Kd.R_slice h5; subst e_; obtain ⟨E6, m6, e_⟩ := Kd.R_slice h6; subst e_; clear h4 h5 h6 hb zx0 zx1 zx2 zx3 zx4 zx5 zx6 zx7)
      | ((with_reducible refine gate_dst (N := 10) rfl ?_); refine box_event ?hg (N := 10) ?hd (cs := #[.int .i64 0, .string (⟨#[]⟩ : ByteArray), .string (⟨#[]⟩ : ByteArray), .string (⟨#[]⟩ : ByteArray), .slice none 0 0, .slice none 0 0, .slice none 0 0, .string (⟨#[]⟩ : ByteArray)]) (t := 34) ?hr ?_; (case hd => rfl); (case hg => rfl); (case hr => first | (go_simp; done) | (go_simp; rfl)); intro gA hg w1 hbox hb; have BA := Aside0.mk hbox; have HX := Aside0.mk (impl_turnedAt.ch8 (u0 := .int .i64 a0) (u1 := .string a1) (u2 := .string a2) (u3 := .string a3) (u4 := .slice E4 a4.length m4) (u5 := .slice E5 a5.length m5) (u6 := .slice E6 a6.length m6) (u7 := .string a7) hb (Nat.le_of_eq hg.symm)); obtain ⟨zk0, zk1, zk2, zk3, zk4, zk5, zk6, zk7⟩ := bc8 hbox; obtain ⟨yk0, yk1, yk2, yk3, yk4, yk5, yk6, yk7⟩ := bf8 hbox; clear hb hbox hg))
  try simp only [Act.put, sT, sZ, sS, i64_w, i32_w]
  replace BA := Aside0.mk (put8 (b0 := .int .i64 a0) (b1 := .string a1) (b2 := .string a2) (b3 := .string a3) (b4 := .slice E4 a4.length m4) (b5 := .slice E5 a5.length m5) (b6 := .slice E6 a6.length m6) (b7 := .string a7) BA.out)
  replace BX := Aside0.mk (blk_below BX.out HX.out)
  replace BI := Aside0.mk (blk_below BI.out HX.out)
  replace BL := Aside0.mk (blk_below BL.out HX.out)
  replace BR := Aside0.mk (blk_below BR.out HX.out)
  replace HB := Aside0.mk (below_step HB.out HX.out)
  clear HX zk0 zk1 zk2 zk3 zk4 zk5 zk6 zk7 yk0 yk1 yk2 yk3 yk4 yk5 yk6 yk7
  generalize World.setCell _ _ _ = w6 at BA BX BI BL BR HB ⊢
  go_cut [37] from 12 (fun v37 wc => v37 = .bool bd ∧ Aside0 (wc.heap[gx]? = some (.cells #[.int .i64 x.f0, .string x.f1, .string x.f2, .string x.f3, .slice A4 x.f4.length c4, .slice A5 x.f5.length c5, .slice A6 x.f6.length c6, .string x.f7] 34 (0, 0))) ∧ Aside0 (wc.heap[gi]? = some (.cells #[.int .i64 i] 3 (0, 0))) ∧ Aside0 (wc.heap[gl]? = some (.cells #[.slice Al l.length cl] 32 (0, 0))) ∧ Aside0 (wc.heap[gR]? = some (.cells #[.int .i64 0, .string (⟨#[]⟩ : ByteArray), .string (⟨#[]⟩ : ByteArray), .string (⟨#[]⟩ : ByteArray), .slice none 0 0, .slice none 0 0, .slice none 0 0, .string (⟨#[]⟩ : ByteArray)] 34 (0, 0))) ∧ Aside0 (Below w.heap.size w wc))
  case first =>
    have h2_ := T2.out
    unfold impl_InsertAt.bad at h2_
    obtain ⟨zk0, -, -, -, -, -, zk6, -⟩ := bc8 BA.out
    have zi := blk_cell BI.out 0
    cases ak with
    | false =>
      rw [if_neg (by simp), Option.some.injEq] at h2_
      subst h2_
      go_wp2
      go_meet
      case rel => exact ⟨rfl, BX, BI, BL, BR, HB⟩
    | true =>
      rw [if_pos rfl] at h2_
      by_cases hk : a0 = 1 ∨ a0 = 0
      · rw [if_pos hk] at h2_
        replace h2_ := Option.bind_eq_some_iff.1 h2_
        obtain ⟨b, h3_, h2_⟩ := h2_
        simp only [Option.some.injEq] at h2_
        subst h2_
        have T3 := Aside0.mk h3_
        clear h3_
        rcases hk with rfl | rfl
        all_goals
          cases b with
          | true =>
            go_wp2_with (go_at_call 27; (refine (impl_in.calls i 0 (a6.length : Int) _ _ T3.out).mono ?_); rintro e w7 ⟨rfl, hd_⟩; have hb := hd_.below; clear hd_; replace BX := Aside0.mk (blk_below BX.out hb); replace BI := Aside0.mk (blk_below BI.out hb); replace BL := Aside0.mk (blk_below BL.out hb); replace BR := Aside0.mk (blk_below BR.out hb); replace HB := Aside0.mk (below_step HB.out hb); clear hb)
            go_meet
            case rel => exact ⟨rfl, BX, BI, BL, BR, HB⟩
          | false =>
            go_wp2_with (go_at_call 27; (refine (impl_in.calls i 0 (a6.length : Int) _ _ T3.out).mono ?_); rintro e w7 ⟨rfl, hd_⟩; have hb := hd_.below; clear hd_; replace BX := Aside0.mk (blk_below BX.out hb); replace BI := Aside0.mk (blk_below BI.out hb); replace BL := Aside0.mk (blk_below BL.out hb); replace BR := Aside0.mk (blk_below BR.out hb); replace HB := Aside0.mk (below_step HB.out hb); clear hb)
            go_meet
            case rel => exact ⟨rfl, BX, BI, BL, BR, HB⟩
      · rw [if_neg hk, Option.some.injEq] at h2_
        subst h2_
        have k1 : (a0 != 1) = true := bne_iff_ne.mpr (fun e => hk (.inl e))
        have k0 : (a0 != 0) = true := bne_iff_ne.mpr (fun e => hk (.inr e))
        clear hk
        go_wp2
        go_meet
        case rel => exact ⟨rfl, BX, BI, BL, BR, HB⟩
  case rest =>
  clear BX BI BL BR HB BA
  obtain ⟨rfl, BX, BI, BL, BR, HB⟩ := hcut
  have h := TH.out
  clear TH
  cases bd with
  | true =>
    rw [if_pos rfl] at h
    replace h := Option.bind_eq_some_iff.1 h
    obtain ⟨⟨y0, y1, y2, y3, y4, y5, y6, y7⟩, h1_, h⟩ := h
    simp only [Option.some.injEq, Prod.mk.injEq] at h
    obtain ⟨rfl, rfl⟩ := h
    have TC := Aside0.mk h1_
    clear h1_
    obtain ⟨zx0, zx1, zx2, zx3, zx4, zx5, zx6, zx7⟩ := bc8 BX.out
    go_wp2_with (first
        | ((with_reducible refine gate_callee (f := 28) rfl ?_); refine goesL_ (some 39) rfl rfl Try.func28 (by kernel_rfl) rfl #[.agg #[.int .i64 x.f0, .string x.f1, .string x.f2, .string x.f3, .slice A4 x.f4.length c4, .slice A5 x.f5.length c5, .slice A6 x.f6.length c6, .string x.f7]] rfl mA ?_; (with_reducible refine (impl_cloneNode.callsD k x.f0 x.f1 x.f2 x.f3 A4 c4 x.f4 A5 c5 x.f5 A6 c6 x.f6 x.f7 y0 y1 y2 y3 y4 y5 y6 y7 _ (Kd.V_reads' (impl_turnedAt.vb (b' := 0) HV4.out HB.out)).2.2 (Kd.V_reads' (impl_turnedAt.vb (b' := 0) HV4.out HB.out)).2.1 (Kd.V_reads' (impl_turnedAt.vb (b' := 0) HV5.out HB.out)).2.2 (Kd.V_reads' (impl_turnedAt.vb (b' := 0) HV5.out HB.out)).2.1 (Kd.V_reads' (impl_turnedAt.vb (b' := 0) HV6.out HB.out)).2.2 (Kd.V_reads' (impl_turnedAt.vb (b' := 0) HV6.out HB.out)).2.1 TC.out).mono ?_); rintro e w8 ⟨v4, v5, v6, rfl, h4, h5, h6, hb⟩; refine ⟨_, rfl, ?_⟩; obtain ⟨Nc, hN, h4, h5, h6⟩ : ∃ Nc : Nat, (gR < Nc ∧ w.heap.size ≤ Nc) ∧ Kd.R k69 69 w8 Nc (fun _ => True) v4 y4 ∧ Kd.R k71 71 w8 Nc (fun _ => True) v5 y5 ∧ Kd.S kD 34 w8 Nc (fun k_ => some k_ ≠ (v4 : Value).ownBlock ∧ some k_ ≠ (v5 : Value).ownBlock) v6 y6 := ⟨_, ⟨blk_lt BR.out, HB.out.size⟩, h4, h5, h6⟩; have HN := Aside0.mk hN; have D4 := Aside0.mk h4; have D5 := Aside0.mk h5; have D6 := Aside0.mk h6; replace BR := Aside0.mk (blk_below BR.out hb); replace HB := Aside0.mk (below_step HB.out hb); obtain ⟨F4, q4, e_⟩ := Kd.R_slice D4.out; subst e_; obtain ⟨F5, q5, e_⟩ := Kd.R_slice D5.out; subst e_; obtain ⟨F6, q6, e_⟩ := Kd.S_slice D6.out; subst e_; clear h4 h5 h6 hN hb; obtain ⟨zr0, zr1, zr2, zr3, zr4, zr5, zr6, zr7⟩ := bc8 BR.out; obtain ⟨yr0, yr1, yr2, yr3, yr4, yr5, yr6, yr7⟩ := bf8 BR.out))
    refine bodyPost_ret (results_ct rfl _ _ gR 34 #[.int .i64 y0, .string y1, .string y2, .string y3, .slice F4 y4.length q4, .slice F5 y5.length q5, .slice F6 y6.length q6, .string y7] (0, 0) _ rfl (put8 BR.out) Try.underlying34 rfl (by kernel_rfl)) rfl ?_
    exact ⟨_, _, _, rfl, Kd.R_lower (impl_turnedAt.finR (u0 := .int .i64 y0) (u1 := .string y1) (u2 := .string y2) (u3 := .string y3) (u4 := .slice F4 y4.length q4) (u5 := .slice F5 y5.length q5) (u6 := .slice F6 y6.length q6) (u7 := .string y7) D4.out HN.out.1) HN.out.2, Kd.R_lower (impl_turnedAt.finR (u0 := .int .i64 y0) (u1 := .string y1) (u2 := .string y2) (u3 := .string y3) (u4 := .slice F4 y4.length q4) (u5 := .slice F5 y5.length q5) (u6 := .slice F6 y6.length q6) (u7 := .string y7) D5.out HN.out.1) HN.out.2, Kd.S_lower (impl_turnedAt.finS (u0 := .int .i64 y0) (u1 := .string y1) (u2 := .string y2) (u3 := .string y3) (u4 := .slice F4 y4.length q4) (u5 := .slice F5 y5.length q5) (u6 := .slice F6 y6.length q6) (u7 := .string y7) D6.out HN.out.1) HN.out.2, impl_turnedAt.ch8 HB.out (Nat.le_trans GX.out (Nat.le_of_lt GR.out))⟩
  | false =>
    rw [if_neg (by simp)] at h
    replace h := Option.bind_eq_some_iff.1 h
    obtain ⟨y, h1_, h⟩ := h
    simp only [Option.some.injEq, Prod.mk.injEq] at h
    obtain ⟨rfl, rfl⟩ := h
    have TY := Aside0.mk h1_
    clear h1_
    obtain ⟨zx0, zx1, zx2, zx3, zx4, zx5, zx6, zx7⟩ := bc8 BX.out
    go_wp2_with (first
        | ((with_reducible refine gate_callee (f := 29) rfl ?_); refine goesL_ (some 43) rfl rfl Try.func29 (by kernel_rfl) rfl #[.agg #[.int .i64 x.f0, .string x.f1, .string x.f2, .string x.f3, .slice A4 x.f4.length c4, .slice A5 x.f5.length c5, .slice A6 x.f6.length c6, .string x.f7], .slice Ap path.length cp, .func (.func 30) #[] #[.pointer (some ⟨gi, 0, none⟩), .pointer (some ⟨gl, 0, none⟩)]] rfl mA ?_; (with_reducible refine (impl_turnedAt.callsD k x A4 c4 A5 c5 A6 c6 Ap cp path i Pl Al cl l gi gl y _ (Kd.V_reads' (impl_turnedAt.vb (b' := 0) HV4.out HB.out)).2.2 (Kd.V_reads' (impl_turnedAt.vb (b' := 0) HV4.out HB.out)).2.1 (Kd.V_reads' (impl_turnedAt.vb (b' := 0) HV5.out HB.out)).2.2 (Kd.V_reads' (impl_turnedAt.vb (b' := 0) HV5.out HB.out)).2.1 (Kd.V_reads' (impl_turnedAt.vb (b' := 0) HV6.out HB.out)).2.2 (Kd.V_reads' (impl_turnedAt.vb (b' := 0) HV6.out HB.out)).2.1 (Kd.C_below HP.out HB.out) HCP.out (impl_turnedAt.vb HL.out HB.out) BI.out BL.out TY.out).mono ?_); rintro e w8 ⟨v4, v5, v6, rfl, h4, h5, h6, hb⟩; refine ⟨_, rfl, ?_⟩; obtain ⟨Nc, hN, h4, h5, h6⟩ : ∃ Nc : Nat, (gR < Nc ∧ w.heap.size ≤ Nc) ∧ Kd.R k69 69 w8 Nc (fun _ => True) v4 y.f4 ∧ Kd.R k71 71 w8 Nc (fun _ => True) v5 y.f5 ∧ Kd.S kD 34 w8 Nc (fun k_ => some k_ ≠ (v4 : Value).ownBlock ∧ some k_ ≠ (v5 : Value).ownBlock) v6 y.f6 := ⟨_, ⟨blk_lt BR.out, HB.out.size⟩, h4, h5, h6⟩; have HN := Aside0.mk hN; have D4 := Aside0.mk h4; have D5 := Aside0.mk h5; have D6 := Aside0.mk h6; replace BR := Aside0.mk (blk_below BR.out hb); replace HB := Aside0.mk (below_step HB.out hb); obtain ⟨F4, q4, e_⟩ := Kd.R_slice D4.out; subst e_; obtain ⟨F5, q5, e_⟩ := Kd.R_slice D5.out; subst e_; obtain ⟨F6, q6, e_⟩ := Kd.S_slice D6.out; subst e_; clear h4 h5 h6 hN hb; obtain ⟨zr0, zr1, zr2, zr3, zr4, zr5, zr6, zr7⟩ := bc8 BR.out; obtain ⟨yr0, yr1, yr2, yr3, yr4, yr5, yr6, yr7⟩ := bf8 BR.out))
    refine bodyPost_ret (results_ct rfl _ _ gR 34 #[.int .i64 y.f0, .string y.f1, .string y.f2, .string y.f3, .slice F4 y.f4.length q4, .slice F5 y.f5.length q5, .slice F6 y.f6.length q6, .string y.f7] (0, 0) _ rfl (put8 BR.out) Try.underlying34 rfl (by kernel_rfl)) rfl ?_
    exact ⟨_, _, _, rfl, Kd.R_lower (impl_turnedAt.finR (u0 := .int .i64 y.f0) (u1 := .string y.f1) (u2 := .string y.f2) (u3 := .string y.f3) (u4 := .slice F4 y.f4.length q4) (u5 := .slice F5 y.f5.length q5) (u6 := .slice F6 y.f6.length q6) (u7 := .string y.f7) D4.out HN.out.1) HN.out.2, Kd.R_lower (impl_turnedAt.finR (u0 := .int .i64 y.f0) (u1 := .string y.f1) (u2 := .string y.f2) (u3 := .string y.f3) (u4 := .slice F4 y.f4.length q4) (u5 := .slice F5 y.f5.length q5) (u6 := .slice F6 y.f6.length q6) (u7 := .string y.f7) D5.out HN.out.1) HN.out.2, Kd.S_lower (impl_turnedAt.finS (u0 := .int .i64 y.f0) (u1 := .string y.f1) (u2 := .string y.f2) (u3 := .string y.f3) (u4 := .slice F4 y.f4.length q4) (u5 := .slice F5 y.f5.length q5) (u6 := .slice F6 y.f6.length q6) (u7 := .string y.f7) D6.out HN.out.1) HN.out.2, impl_turnedAt.ch8 HB.out (Nat.le_trans GX.out (Nat.le_of_lt GR.out))⟩

/-! ### laws_eqDecl: function 51 -/
def laws_eqDecl.f (a0_0 : ByteArray) (a0_1 : ByteArray) (a1_0 : ByteArray) (a1_1 : ByteArray) : Option (Bool) := if a0_0.toList = a1_0.toList then (if a0_1.toList = a1_1.toList then (some true) else (some false)) else (some false)
theorem laws_eqDecl.calls (a0_0 : ByteArray) (a0_1 : ByteArray) (a1_0 : ByteArray) (a1_1 : ByteArray) (r_ : Bool) (w : World) (h : laws_eqDecl.f a0_0 a0_1 a1_0 a1_1 = some true) :
  Calls Try.prog 51 #[.agg #[.string a0_0, .string a0_1], .agg #[.string a1_0, .string a1_1]] w fun e w' => e = .returned (.bool true) ∧ Below w.heap.size w w' := by
 have hu69 := Try.underlying69
 have HB := Aside0.mk (Below.refl w.heap.size w)
 have H : (if a0_0.toList = a1_0.toList then (if a0_1.toList = a1_1.toList then (some true) else (some false)) else (some false)) = some true := h
 clear h
 go_enter Try.func51, Try.ntmps51
 go_wp2_with (first | ((with_reducible refine gate_dst (N := 2) rfl ?_); refine box_event ?hg (N := 2) ?hd (cs := #[.string a0_0, .string a0_1]) (t := 69) ?hr ?_; (case hd => rfl); (case hg => rfl); (case hr => first | (go_simp; done) | (go_simp; rfl)); intro gb426 hg w3 hbox hb; have BK426 := Aside0.mk (hbox); have GW426 := Aside0.mk ((by rw [hg]; exact (below_size hB) : w.heap.size ≤ gb426)); have GE426 := Aside0.mk ((by rw [hg]; exact (below_size hB) : w.heap.size ≤ gb426)); replace HB := Aside0.mk (below_step hB hb); clear hb hbox hg) | ((with_reducible refine gate_dst (N := 3) rfl ?_); refine box_event ?hg (N := 3) ?hd (cs := #[.string a1_0, .string a1_1]) (t := 69) ?hr ?_; (case hd => rfl); (case hg => rfl); (case hr => first | (go_simp; done) | (go_simp; rfl)); intro gb427 hg w4 hbox hb; have BK427 := Aside0.mk (hbox); have GW427 := Aside0.mk ((by rw [hg]; exact (below_size hB) : w.heap.size ≤ gb427)); have GE427 := Aside0.mk ((by rw [hg]; exact (below_size hB) : w.heap.size ≤ gb427)); replace HB := Aside0.mk (below_step hB hb); have NB426_427 := Aside0.mk ((by rw [hg]; exact Nat.ne_of_lt (blk_lt (g := gb426) (by (with_reducible repeat (first | refine bN ?_ _|refine bD ?_|refine bA ?_ _)); exact BK426.out)) : gb426 ≠ gb427)); have NB427_426 := Aside0.mk ((by rw [hg]; exact Nat.ne_of_gt (blk_lt (g := gb426) (by (with_reducible repeat (first | refine bN ?_ _|refine bD ?_|refine bA ?_ _)); exact BK426.out)) : gb427 ≠ gb426)); replace BK426 := Aside0.mk (blk_below (g := gb426) (by (with_reducible repeat (first | refine bN ?_ _|refine bD ?_|refine bA ?_ _)); exact BK426.out) hb); clear hb hbox hg; have hnb5 := NB426_427.out; have hnc5 := NB427_426.out; obtain ⟨hcz6_0, hcz6_1⟩ := bc2 BK426.out; obtain ⟨hcz7_0, hcz7_1⟩ := bc2 BK427.out; refine halt_ ?_; intro q_ hq_))
 obtain ⟨rfl⟩ := hq_
 by_cases c8 : a0_0.toList = a1_0.toList
 ·rw [if_pos c8] at H
  have c8b0 : (a0_0.toList == a1_0.toList) = true := beq_iff_eq.mpr c8
  have c8b1 : (a0_0.toList != a1_0.toList) = false := bne_eq_false_iff_eq.mpr c8
  clear c8
  by_cases c9 : a0_1.toList = a1_1.toList
  ·rw [if_pos c9] at H
   have c9b0 : (a0_1.toList == a1_1.toList) = true := beq_iff_eq.mpr c9
   have c9b1 : (a0_1.toList != a1_1.toList) = false := bne_eq_false_iff_eq.mpr c9
   clear c9
   first | obtain rfl := Option.some.inj H | clear H
   have hnb10 := NB426_427.out
   have hnc10 := NB427_426.out
   obtain ⟨hcz11_0, hcz11_1⟩ := bc2 BK426.out
   obtain ⟨hcz12_0, hcz12_1⟩ := bc2 BK427.out
   go_wp2
   go_ret
   exact ⟨rE, hB⟩
  ·rw [if_neg c9] at H
   exact absurd H (by simp)
 ·rw [if_neg c8] at H
  exact absurd H (by simp)
end Go.Proofs.Ytglmahgliihkaaa.PY
