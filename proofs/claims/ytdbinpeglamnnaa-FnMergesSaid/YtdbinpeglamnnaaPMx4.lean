-- Written by the session's program hprint.py, over the kit's print program. Lean checks it.
import Derived.Test.YtdbinpeglamnnaaPMx0
import Derived.Test.YtdbinpeglamnnaaPMx3
namespace Go.Proofs.Ytdbinpeglamnnaa.PM
open Go.RowKit Go.Proofs.YtdbinpeglamnnaaW.PrintWords Go.Proofs.YtdbinpeglamnnaaW.PrintLast Go.Proofs.YtdbinpeglamnnaaW.PrintMore
attribute [local go_sem] max2_int min2_int max_two min_two max_three min_three max_four min_four   -- for this text's walks alone
set_option linter.unusedVariables false
set_option linter.unusedSimpArgs false
set_option maxHeartbeats 8000000
set_option maxRecDepth 100000

/-! ### impl_cloneNode: function 47 -/
def impl_cloneNode.F (G_ : List (S34) → Option ((List (S34)))) (k : Nat) (a0_0 : Int) (a0_1 : ByteArray) (a0_2 : ByteArray) (a0_3 : ByteArray) (l0_4 : List (S88)) (l0_5 : List (S90)) (l0_6 : List (S34)) (a0_7 : ByteArray) : Option (Int × ByteArray × ByteArray × ByteArray × (List (S88)) × (List (S90)) × (List (S34)) × ByteArray) := (impl_Decl_71.f l0_4).bind fun t205 => ((impl_Attr_72.f l0_5).bind fun t208 => ((G_ l0_6).bind fun t211 => (some (a0_0, a0_1, a0_2, a0_3, t205, t208, t211, a0_7))))
theorem impl_cloneNode.monoF {G_ G2_ : List (S34) → Option ((List (S34)))} (hG_ : ∀ y0_, LeO (G_ y0_) (G2_ y0_)) : ∀ a0 a1 a2 a3 a4 a5 a6 a7 k, LeO (impl_cloneNode.F G_ k a0 a1 a2 a3 a4 a5 a6 a7) (impl_cloneNode.F G2_ (k + 1) a0 a1 a2 a3 a4 a5 a6 a7) := by
 intro a0 a1 a2 a3 a4 a5 a6 a7 k
 unfold impl_cloneNode.F
 repeat' first
   | (with_reducible exact hG_ _)
   | (with_reducible exact LeO.refl _)
   | (with_reducible exact LeO.none _)
   | (with_reducible refine LeO.ite ?_ ?_)
   | (with_reducible refine LeO.bind ?_ (fun _ => ?_))
   | exact hG_ _
   | exact LeO.none _
   | refine LeO.ite ?_ ?_
   | refine LeO.bind ?_ (fun _ => ?_)
def impl_cloneNode.T1 : Bool × List (List Nat × List Nat) := (true, [([], []), ([0], [0]), ([1], [1]), ([], []), ([3], [3]), ([4, 2], [4]), ([], []), ([6], [6]), ([7, 5], [7]), ([0, 1, 2, 3, 4, 6, 7], []), ([9, 2, 8, 0, 1, 2, 3, 4, 6, 7], [2, 9]), ([0, 1, 2, 3, 4, 5, 6, 7, 9, 10], []), ([11, 5, 10, 0, 1, 2, 3, 4, 5, 6, 7, 9, 10], [5, 11]), ([0, 1, 2, 3, 4, 5, 6, 7, 8, 9, 10, 11, 12], []), ([13, 8, 12, 0, 1, 2, 3, 4, 5, 6, 7, 8, 9, 10, 11, 12], [8, 13])])
def impl_cloneNode.B1 : List Nat := [0, 1, 3, 0, 8, 31, 0, 64, 255, 223, 1023, 2047, 4095, 8191, 16383]
theorem impl_cloneNode.tab1 : rtab .any (opsOf Try.f47 1) = impl_cloneNode.T1 := by kernel_rfl
theorem impl_cloneNode.bits1 : waitsOk impl_cloneNode.T1.2 impl_cloneNode.B1 = true := by kernel_rfl
theorem impl_cloneNode.callsF (G_ : List (S34) → Option ((List (S34)))) (hG_ : ∀ (A0 : Option Addr) (c0 : Nat) (l0 : List (S34)) (r : List (S34)) (w : World) (hr0 : Kd.C k34 w A0 l0.length l0) (hc0 : l0.length ≤ c0) (h : G_ l0 = some r), Calls Try.prog 73 #[.slice A0 l0.length c0] w fun e w' => ∃ v0_ : Value, e = .returned (v0_) ∧ Kd.R k34 34 w' w.heap.size (fun _ => True) v0_ r ∧ Below w.heap.size w w') (k : Nat) (a0_0 : Int) (a0_1 : ByteArray) (a0_2 : ByteArray) (a0_3 : ByteArray) (A0_4 : Option Addr) (c0_4 : Nat) (l0_4 : List (S88)) (A0_5 : Option Addr) (c0_5 : Nat) (l0_5 : List (S90)) (A0_6 : Option Addr) (c0_6 : Nat) (l0_6 : List (S34)) (a0_7 : ByteArray) (r1 : Int) (r2 : ByteArray) (r3 : ByteArray) (r4 : ByteArray) (r5 : List (S88)) (r6 : List (S90)) (r7 : List (S34)) (r8 : ByteArray) (w : World) (hr0_4 : Kd.C k88 w A0_4 l0_4.length l0_4) (hc0_4 : l0_4.length ≤ c0_4) (hr0_5 : Kd.C k90 w A0_5 l0_5.length l0_5) (hc0_5 : l0_5.length ≤ c0_5) (hr0_6 : Kd.C k34 w A0_6 l0_6.length l0_6) (hc0_6 : l0_6.length ≤ c0_6) (h : impl_cloneNode.F G_ k a0_0 a0_1 a0_2 a0_3 l0_4 l0_5 l0_6 a0_7 = some (r1, r2, r3, r4, r5, r6, r7, r8)) :
  Calls Try.prog 47 #[.agg #[.int .i64 a0_0, .string a0_1, .string a0_2, .string a0_3, .slice A0_4 l0_4.length c0_4, .slice A0_5 l0_5.length c0_5, .slice A0_6 l0_6.length c0_6, .string a0_7]] w fun e w' => ∃ v4_ v5_ v6_ : Value, e = .returned (.agg #[.int .i64 r1, .string r2, .string r3, .string r4, v4_, v5_, v6_, .string r8]) ∧ Kd.R k88 88 w' w.heap.size (fun _ => True) v4_ r5 ∧ Kd.R k90 90 w' w.heap.size (fun _ => True) v5_ r6 ∧ Kd.R k34 34 w' w.heap.size (fun k_ => some k_ ≠ (v4_ : Value).ownBlock ∧ some k_ ≠ (v5_ : Value).ownBlock) v6_ r7 ∧ Below w.heap.size w w' := by
 have hu34 := Try.underlying34
 have HR0_4 := Aside0.mk hr0_4
 have HC0_4 := Aside0.mk hc0_4
 clear hr0_4 hc0_4
 have HR0_5 := Aside0.mk hr0_5
 have HC0_5 := Aside0.mk hc0_5
 clear hr0_5 hc0_5
 have HR0_6 := Aside0.mk hr0_6
 have HC0_6 := Aside0.mk hc0_6
 clear hr0_6 hc0_6
 have HB := Aside0.mk (Below.refl w.heap.size w)
 have H : ((impl_Decl_71.f l0_4).bind fun t205 => ((impl_Attr_72.f l0_5).bind fun t208 => ((G_ l0_6).bind fun t211 => (some (a0_0, a0_1, a0_2, a0_3, t205, t208, t211, a0_7))))) = some (r1, r2, r3, r4, r5, r6, r7, r8) := h
 clear h
 replace H := Option.bind_eq_some_iff.mp H
 obtain ⟨t205, A20, H⟩ := H
 try dsimp only at H
 have A2 := Aside0.mk A20
 clear A20
 replace H := Option.bind_eq_some_iff.mp H
 obtain ⟨t208, A30, H⟩ := H
 try dsimp only at H
 have A3 := Aside0.mk A30
 clear A30
 replace H := Option.bind_eq_some_iff.mp H
 obtain ⟨t211, A40, H⟩ := H
 try dsimp only at H
 have A4 := Aside0.mk A40
 clear A40
 simp only [Option.some.injEq, Prod.mk.injEq] at H
 obtain ⟨rfl, rfl, rfl, rfl, rfl, rfl, rfl, rfl⟩ := H
 go_enter Try.func47, Try.ntmps47
 try go_wp2_with (first | ((with_reducible refine gate_dst (N := 1) rfl ?_); refine box_event ?hg (N := 1) ?hd (cs := #[.int .i64 a0_0, .string a0_1, .string a0_2, .string a0_3, .slice A0_4 l0_4.length c0_4, .slice A0_5 l0_5.length c0_5, .slice A0_6 l0_6.length c0_6, .string a0_7]) (t := 34) ?hr ?_; (case hd => rfl); (case hg => rfl); (case hr => first | (go_simp; done) | (go_simp; rfl)); intro gb203 hg w5 hbox hb; have BK203 := Aside0.mk (hbox); have GW203 := Aside0.mk ((by rw [hg]; exact (below_size hB) : w.heap.size ≤ gb203)); have GE203 := Aside0.mk ((by rw [hg]; exact (below_size hB) : w.heap.size ≤ gb203)); replace HB := Aside0.mk (below_step hB hb); clear hb hbox hg) | ((with_reducible refine gate_dst (N := 2) rfl ?_); refine box_event ?hg (N := 2) ?hd (cs := #[.int .i64 0, .string (⟨#[]⟩ : ByteArray), .string (⟨#[]⟩ : ByteArray), .string (⟨#[]⟩ : ByteArray), .slice none 0 0, .slice none 0 0, .slice none 0 0, .string (⟨#[]⟩ : ByteArray)]) (t := 34) ?hr ?_; (case hd => rfl); (case hg => rfl); (case hr => first | (go_simp; done) | (go_simp; rfl)); intro gb204 hg w6 hbox hb; have BK204 := Aside0.mk (hbox); have GW204 := Aside0.mk ((by rw [hg]; exact (below_size hB) : w.heap.size ≤ gb204)); have GE204 := Aside0.mk ((by rw [hg]; exact (below_size hB) : w.heap.size ≤ gb204)); replace HB := Aside0.mk (below_step hB hb); have NB203_204 := Aside0.mk ((by rw [hg]; exact Nat.ne_of_lt (blk_lt (g := gb203) (by (with_reducible repeat (first | refine bN ?_ _|refine bD ?_|refine bA ?_ _)); exact BK203.out)) : gb203 ≠ gb204)); have NB204_203 := Aside0.mk ((by rw [hg]; exact Nat.ne_of_gt (blk_lt (g := gb203) (by (with_reducible repeat (first | refine bN ?_ _|refine bD ?_|refine bA ?_ _)); exact BK203.out)) : gb204 ≠ gb203)); replace BK203 := Aside0.mk (blk_below (g := gb203) (by (with_reducible repeat (first | refine bN ?_ _|refine bD ?_|refine bA ?_ _)); exact BK203.out) hb); clear hb hbox hg))
 replace BK203 := Aside0.mk (blk_drew BK203.out)
 replace BK204 := Aside0.mk (blk_drew BK204.out)
 replace HB := Aside0.mk (below_drew1 HB.out)
 refine start_ (n := 15) (S := fun w' => w'.cell? ⟨gb203, 0, none⟩ = some (.int .i64 a0_0) ∧ w'.cell? ⟨gb203, 1, none⟩ = some (.string a0_1) ∧ w'.cell? ⟨gb203, 2, none⟩ = some (.string a0_2) ∧ w'.cell? ⟨gb203, 3, none⟩ = some (.string a0_3) ∧ w'.cell? ⟨gb203, 4, none⟩ = some (.slice A0_4 l0_4.length c0_4) ∧ w'.cell? ⟨gb203, 5, none⟩ = some (.slice A0_5 l0_5.length c0_5) ∧ w'.cell? ⟨gb203, 6, none⟩ = some (.slice A0_6 l0_6.length c0_6) ∧ w'.cell? ⟨gb203, 7, none⟩ = some (.string a0_7)) (ds := [10, 12, 14]) #[false, false, false, false, false, false, false, false, false, false, false, false, false, false, false] (by kernel_rfl) rfl rfl ⟨(blk_cell BK203.out 0).trans rfl, (blk_cell BK203.out 1).trans rfl, (blk_cell BK203.out 2).trans rfl, (blk_cell BK203.out 3).trans rfl, (blk_cell BK203.out 4).trans rfl, (blk_cell BK203.out 5).trans rfl, (blk_cell BK203.out 6).trans rfl, (blk_cell BK203.out 7).trans rfl⟩ (fun hHeld => ?_); refine with_tabW impl_cloneNode.tab1 impl_cloneNode.bits1 (fun HT_ HW_ => ?_)
 generalize w6.drew = w7 at BK203 BK204 HB hHeld ⊢
 refine pU 0 3 (tf 1 14) ?_
 refine pU 3 6 #[true, false, false, true, false, false, false, false, false, false, false, false, false, false, false] ?_
 refine pU 6 9 #[true, false, false, true, false, false, true, false, false, false, false, false, false, false, false] ?_
 refine take_ (i := 1) (N := some 4) (v := ?_) (a' := ?_) #[true, true, false, true, false, false, true, false, false, false, false, false, false, false, false] rfl rfl (take_ofW HT_.out HW_.out (by kernel_rfl)) (fun _ _ _ h => h) (Or.inl ⟨by rfl, ?_⟩) hHeld ?_ ?_
 rotate_left
 ·rintro w' ⟨s0, s1, s2, s3, s4, s5, s6, s7⟩
  go_simp
  with_reducible rfl
 rotate_left
 ·simp only [Act.put, sT, sZ, sS, i64_w, i32_w]
  rfl
 refine take_ (i := 4) (N := some 7) (v := ?_) (a' := ?_) #[true, true, false, true, true, false, true, false, false, false, false, false, false, false, false] rfl rfl (take_ofW HT_.out HW_.out (by kernel_rfl)) (fun _ _ _ h => h) (Or.inl ⟨by rfl, ?_⟩) hHeld ?_ ?_
 rotate_left
 ·rintro w' ⟨s0, s1, s2, s3, s4, s5, s6, s7⟩
  go_simp
  with_reducible rfl
 rotate_left
 ·simp only [Act.put, sT, sZ, sS, i64_w, i32_w]
  rfl
 refine take_ (i := 7) (N := some 10) (v := ?_) (a' := ?_) #[true, true, false, true, true, false, true, true, false, false, false, false, false, false, false] rfl rfl (take_ofW HT_.out HW_.out (by kernel_rfl)) (fun _ _ _ h => h) (Or.inl ⟨by rfl, ?_⟩) hHeld ?_ ?_
 rotate_left
 ·rintro w' ⟨s0, s1, s2, s3, s4, s5, s6, s7⟩
  go_simp
  with_reducible rfl
 rotate_left
 ·simp only [Act.put, sT, sZ, sS, i64_w, i32_w]
  rfl
 refine one_ (i := 2) (N := some 5) #[true, true, true, true, true, false, true, true, false, false, false, false, false, false, false] rfl rfl (one_of HT_.out (by kernel_rfl)) (by decide) (fun K hK => ?_)
 refine goes_ Try.func71 (by kernel_rfl) rfl #[.slice A0_4 l0_4.length c0_4] (by rfl) rfl rfl mA ?_
 with_reducible refine (impl_Decl_71.calls _ _ l0_4 t205 _ ?side1 ?side2 A2.out).mono ?_
 (case side1 => repeat (first | exact (Kd.C_below HR0_4.out HB.out) | (with_reducible refine Kd.C_alloc ?_ _) | (with_reducible refine Kd.C_drewN ?_ _) | (with_reducible refine Kd.C_drew ?_)))
 (case side2 => exact HC0_4.out)
 rintro e w8 ⟨v206, rfl, ho0, hb⟩
 refine ⟨_, rfl, ?_⟩
 have HO207 := Aside0.mk (Kd.R_lower ho0 (below_size hB))
 replace BK203 := Aside0.mk (blk_below (g := gb203) (by (with_reducible repeat (first | refine bN ?_ _|refine bD ?_|refine bA ?_ _)); exact BK203.out) hb)
 replace BK204 := Aside0.mk (blk_below (g := gb204) (by (with_reducible repeat (first | refine bN ?_ _|refine bD ?_|refine bA ?_ _)); exact BK204.out) hb)
 replace HB := Aside0.mk (below_step hB hb)
 (try clear hb)
 (try clear hb2)
 (try clear hk)
 (try clear hi)
 (try clear ho0)
 refine hK.out _ _ ⟨(blk_cell BK203.out 0).trans rfl, (blk_cell BK203.out 1).trans rfl, (blk_cell BK203.out 2).trans rfl, (blk_cell BK203.out 3).trans rfl, (blk_cell BK203.out 4).trans rfl, (blk_cell BK203.out 5).trans rfl, (blk_cell BK203.out 6).trans rfl, (blk_cell BK203.out 7).trans rfl⟩ (fun hHeld => ?_)
 clear hK K
 refine norm_ (a' := ?_) ?_ ?_
 rotate_left
 ·show Act.put _ (some 5) _ = _
  simp only [Act.put, sT, sZ, sS, i64_w, i32_w]
  rfl
 refine pU 9 12 #[true, true, true, true, true, false, true, true, false, true, false, false, false, false, false] ?_
 refine one_ (i := 5) (N := some 8) #[true, true, true, true, true, true, true, true, false, true, false, false, false, false, false] rfl rfl (one_of HT_.out (by kernel_rfl)) (by decide) (fun K hK => ?_)
 refine goes_ Try.func72 (by kernel_rfl) rfl #[.slice A0_5 l0_5.length c0_5] (by rfl) rfl rfl mA ?_
 with_reducible refine (impl_Attr_72.calls _ _ l0_5 t208 _ ?side1 ?side2 A3.out).mono ?_
 (case side1 => repeat (first | exact (Kd.C_below HR0_5.out HB.out) | (with_reducible refine Kd.C_alloc ?_ _) | (with_reducible refine Kd.C_drewN ?_ _) | (with_reducible refine Kd.C_drew ?_)))
 (case side2 => exact HC0_5.out)
 rintro e w9 ⟨v209, rfl, ho0, hb⟩
 refine ⟨_, rfl, ?_⟩
 replace HO207 := Aside0.mk (Kd.R_below (by (with_reducible repeat (first|apply rA|apply rN|apply rD)); exact HO207.out) hb)
 have HO210 := Aside0.mk (Kd.R_lower ho0 (below_size hB))
 replace BK203 := Aside0.mk (blk_below (g := gb203) (by (with_reducible repeat (first | refine bN ?_ _|refine bD ?_|refine bA ?_ _)); exact BK203.out) hb)
 replace BK204 := Aside0.mk (blk_below (g := gb204) (by (with_reducible repeat (first | refine bN ?_ _|refine bD ?_|refine bA ?_ _)); exact BK204.out) hb)
 replace HB := Aside0.mk (below_step hB hb)
 (try clear hb)
 (try clear hb2)
 (try clear hk)
 (try clear hi)
 (try clear ho0)
 refine hK.out _ _ ⟨(blk_cell BK203.out 0).trans rfl, (blk_cell BK203.out 1).trans rfl, (blk_cell BK203.out 2).trans rfl, (blk_cell BK203.out 3).trans rfl, (blk_cell BK203.out 4).trans rfl, (blk_cell BK203.out 5).trans rfl, (blk_cell BK203.out 6).trans rfl, (blk_cell BK203.out 7).trans rfl⟩ (fun hHeld => ?_)
 clear hK K
 refine norm_ (a' := ?_) ?_ ?_
 rotate_left
 ·show Act.put _ (some 8) _ = _
  simp only [Act.put, sT, sZ, sS, i64_w, i32_w]
  rfl
 refine one_ (i := 8) (N := some 11) (tf 10 5) rfl rfl (one_of HT_.out (by kernel_rfl)) (by decide) (fun K hK => ?_)
 refine goes_ Try.func73 (by kernel_rfl) rfl #[.slice A0_6 l0_6.length c0_6] (by rfl) rfl rfl mA ?_
 with_reducible refine (hG_ _ _ l0_6 t211 _ ?side1 ?side2 A4.out).mono ?_
 (case side1 => repeat (first | exact (Kd.C_below HR0_6.out HB.out) | (with_reducible refine Kd.C_alloc ?_ _) | (with_reducible refine Kd.C_drewN ?_ _) | (with_reducible refine Kd.C_drew ?_)))
 (case side2 => exact HC0_6.out)
 rintro e w10 ⟨v212, rfl, ho0, hb⟩
 refine ⟨_, rfl, ?_⟩
 have HO213 := Aside0.mk (Kd.R_lower (Kd.R_newB (Kd.R_newB (Kd.R_new' (Kd.R_new' ho0 (Kd.R_lt (by (with_reducible repeat (first|apply rA|apply rN|apply rD)); exact HO207.out))) (Kd.R_lt (by (with_reducible repeat (first|apply rA|apply rN|apply rD)); exact HO210.out))) (g := gb203) (by (with_reducible repeat (first | refine bN ?_ _|refine bD ?_|refine bA ?_ _)); exact BK203.out)) (g := gb204) (by (with_reducible repeat (first | refine bN ?_ _|refine bD ?_|refine bA ?_ _)); exact BK204.out)) (below_size hB))
 replace HO207 := Aside0.mk (Kd.R_below (by (with_reducible repeat (first|apply rA|apply rN|apply rD)); exact HO207.out) hb)
 replace HO210 := Aside0.mk (Kd.R_below (by (with_reducible repeat (first|apply rA|apply rN|apply rD)); exact HO210.out) hb)
 replace BK203 := Aside0.mk (blk_below (g := gb203) (by (with_reducible repeat (first | refine bN ?_ _|refine bD ?_|refine bA ?_ _)); exact BK203.out) hb)
 replace BK204 := Aside0.mk (blk_below (g := gb204) (by (with_reducible repeat (first | refine bN ?_ _|refine bD ?_|refine bA ?_ _)); exact BK204.out) hb)
 replace HB := Aside0.mk (below_step hB hb)
 (try clear hb)
 (try clear hb2)
 (try clear hk)
 (try clear hi)
 (try clear ho0)
 obtain ⟨Ao11, co11, eo11⟩ := Kd.R_slice HO207.out
 (first | subst eo11 | (injection eo11 with f1_ f2_ f3_; have f4_ := f1_.symm; have f5_ := f3_.symm; clear f1_ f2_ f3_; subst f4_; subst f5_))
 obtain ⟨Ao13, co13, eo13⟩ := Kd.R_slice HO210.out
 (first | subst eo13 | (injection eo13 with f1_ f2_ f3_; have f4_ := f1_.symm; have f5_ := f3_.symm; clear f1_ f2_ f3_; subst f4_; subst f5_))
 obtain ⟨Ao15, co15, eo15⟩ := Kd.R_slice HO213.out
 (first | subst eo15 | (injection eo15 with f1_ f2_ f3_; have f4_ := f1_.symm; have f5_ := f3_.symm; clear f1_ f2_ f3_; subst f4_; subst f5_))
 refine hK.out _ _ ⟨(blk_cell BK203.out 0).trans rfl, (blk_cell BK203.out 1).trans rfl, (blk_cell BK203.out 2).trans rfl, (blk_cell BK203.out 3).trans rfl, (blk_cell BK203.out 4).trans rfl, (blk_cell BK203.out 5).trans rfl, (blk_cell BK203.out 6).trans rfl, (blk_cell BK203.out 7).trans rfl⟩ (fun hHeld => ?_)
 clear hK K
 refine norm_ (a' := ?_) ?_ ?_
 rotate_left
 ·show Act.put _ (some 11) _ = _
  simp only [Act.put, sT, sZ, sS, i64_w, i32_w]
  rfl
 refine last_ (i := 10) (N := none) (tf 11 4) rfl rfl (one_of HT_.out (by kernel_rfl)) (by decide) (fun K hK => ?_)
 have hs12 : w10.cell? ⟨gb203, 4, none⟩ = some (.slice A0_4 l0_4.length c0_4) := (blk_cell BK203.out 4).trans rfl
 have hfs12 := blk_frozen BK203.out 4
 have hns12_1 := NB204_203.out
 have hms12_1 := NB203_204.out
 refine skip_ (w1 := ?_) (by rfl) rfl ?_ ?_
 rotate_left
 ·go_simp
  rfl
 refine hK.out _ _ ?_
 clear hK K
 refine pU 11 13 (tf 12 3) ?_
 refine last_ (i := 12) (N := none) (tf 13 2) rfl rfl (one_of HT_.out (by kernel_rfl)) (by decide) (fun K hK => ?_)
 have hs14 : w10.cell? ⟨gb203, 5, none⟩ = some (.slice A0_5 l0_5.length c0_5) := (blk_cell BK203.out 5).trans rfl
 have hfs14 := blk_frozen BK203.out 5
 have hns14_1 := NB204_203.out
 have hms14_1 := NB203_204.out
 refine skip_ (w1 := ?_) (by rfl) rfl ?_ ?_
 rotate_left
 ·go_simp
  rfl
 refine hK.out _ _ ?_
 clear hK K
 refine pU 13 14 (tf 14 1) ?_
 refine last_ (i := 14) (N := none) (tf 15 0) rfl rfl (one_of HT_.out (by kernel_rfl)) (by decide) (fun K hK => ?_)
 have hs16 : w10.cell? ⟨gb203, 6, none⟩ = some (.slice A0_6 l0_6.length c0_6) := (blk_cell BK203.out 6).trans rfl
 have hfs16 := blk_frozen BK203.out 6
 have hns16_1 := NB204_203.out
 have hms16_1 := NB203_204.out
 refine skip_ (w1 := ?_) (by rfl) rfl ?_ ?_
 rotate_left
 ·go_simp
  rfl
 refine hK.out _ _ ?_
 clear hK K
 refine done_ (done_of HT_.out (by kernel_rfl)) ?_
 have hnb17 := NB203_204.out
 have hnc17 := NB204_203.out
 obtain ⟨hcz18_0, hcz18_1, hcz18_2, hcz18_3, hcz18_4, hcz18_5, hcz18_6, hcz18_7⟩ := bc8 BK203.out
 obtain ⟨hfz18_0, hfz18_1, hfz18_2, hfz18_3, hfz18_4, hfz18_5, hfz18_6, hfz18_7⟩ := bf8 BK203.out
 obtain ⟨hcz19_0, hcz19_1, hcz19_2, hcz19_3, hcz19_4, hcz19_5, hcz19_6, hcz19_7⟩ := bc8 BK204.out
 obtain ⟨hfz19_0, hfz19_1, hfz19_2, hfz19_3, hfz19_4, hfz19_5, hfz19_6, hfz19_7⟩ := bf8 BK204.out
 try go_wp2
 refine bodyPost_ret (results_cell_row rfl _ _ gb204 34 #[.int .i64 a0_0, .string a0_1, .string a0_2, .string a0_3, .slice Ao11 t205.length co11, .slice Ao13 t208.length co13, .slice Ao15 t211.length co15, .string a0_7] (0, 0) _ rfl (by (with_reducible repeat (first | refine bN ?_ _|refine bD ?_|refine bA ?_ _)); exact put8 (by (with_reducible repeat (first | refine bN ?_ _|refine bD ?_|refine bA ?_ _)); refine blk_far ?_ NB204_203.out _; (with_reducible repeat (first | refine bN ?_ _|refine bD ?_|refine bA ?_ _)); refine blk_far ?_ NB204_203.out _; (with_reducible repeat (first | refine bN ?_ _|refine bD ?_|refine bA ?_ _)); refine blk_far ?_ NB204_203.out _; (with_reducible repeat (first | refine bN ?_ _|refine bD ?_|refine bA ?_ _)); exact BK204.out)) Try.underlying34 rfl (by kernel_rfl)) rfl ?_
 exact ⟨_, _, _, rE, by (with_reducible repeat (first|apply rA|apply rN|apply rD)); exact Kd.R_mono (Kd.R_far (p := ⟨gb204, 7, none⟩) (Kd.R_far (p := ⟨gb204, 6, none⟩) (Kd.R_far (p := ⟨gb204, 5, none⟩) (Kd.R_far (p := ⟨gb204, 4, none⟩) (Kd.R_far (p := ⟨gb204, 3, none⟩) (Kd.R_far (p := ⟨gb204, 2, none⟩) (Kd.R_far (p := ⟨gb204, 1, none⟩) (Kd.R_far (p := ⟨gb204, 0, none⟩) (Kd.R_far (p := ⟨gb203, 6, none⟩) (Kd.R_far (p := ⟨gb203, 5, none⟩) (Kd.R_far (p := ⟨gb203, 4, none⟩) (Kd.R_types (Kd.R_types HO207.out BK203.out (by decide)) BK204.out (by decide)) (fun _ hk => hk.1.2) (.slice Ao11 t205.length co11)) (fun _ hk => hk.1.2) (.slice Ao13 t208.length co13)) (fun _ hk => hk.1.2) (.slice Ao15 t211.length co15)) (fun _ hk => hk.2) (.int .i64 a0_0)) (fun _ hk => hk.2) (.string a0_1)) (fun _ hk => hk.2) (.string a0_2)) (fun _ hk => hk.2) (.string a0_3)) (fun _ hk => hk.2) (.slice Ao11 t205.length co11)) (fun _ hk => hk.2) (.slice Ao13 t208.length co13)) (fun _ hk => hk.2) (.slice Ao15 t211.length co15)) (fun _ hk => hk.2) (.string a0_7)) (fun _ hk => trivial), by (with_reducible repeat (first|apply rA|apply rN|apply rD)); exact Kd.R_mono (Kd.R_far (p := ⟨gb204, 7, none⟩) (Kd.R_far (p := ⟨gb204, 6, none⟩) (Kd.R_far (p := ⟨gb204, 5, none⟩) (Kd.R_far (p := ⟨gb204, 4, none⟩) (Kd.R_far (p := ⟨gb204, 3, none⟩) (Kd.R_far (p := ⟨gb204, 2, none⟩) (Kd.R_far (p := ⟨gb204, 1, none⟩) (Kd.R_far (p := ⟨gb204, 0, none⟩) (Kd.R_far (p := ⟨gb203, 6, none⟩) (Kd.R_far (p := ⟨gb203, 5, none⟩) (Kd.R_far (p := ⟨gb203, 4, none⟩) (Kd.R_types (Kd.R_types HO210.out BK203.out (by decide)) BK204.out (by decide)) (fun _ hk => hk.1.2) (.slice Ao11 t205.length co11)) (fun _ hk => hk.1.2) (.slice Ao13 t208.length co13)) (fun _ hk => hk.1.2) (.slice Ao15 t211.length co15)) (fun _ hk => hk.2) (.int .i64 a0_0)) (fun _ hk => hk.2) (.string a0_1)) (fun _ hk => hk.2) (.string a0_2)) (fun _ hk => hk.2) (.string a0_3)) (fun _ hk => hk.2) (.slice Ao11 t205.length co11)) (fun _ hk => hk.2) (.slice Ao13 t208.length co13)) (fun _ hk => hk.2) (.slice Ao15 t211.length co15)) (fun _ hk => hk.2) (.string a0_7)) (fun _ hk => trivial), by (with_reducible repeat (first|apply rA|apply rN|apply rD)); exact Kd.R_mono (Kd.R_far (p := ⟨gb204, 7, none⟩) (Kd.R_far (p := ⟨gb204, 6, none⟩) (Kd.R_far (p := ⟨gb204, 5, none⟩) (Kd.R_far (p := ⟨gb204, 4, none⟩) (Kd.R_far (p := ⟨gb204, 3, none⟩) (Kd.R_far (p := ⟨gb204, 2, none⟩) (Kd.R_far (p := ⟨gb204, 1, none⟩) (Kd.R_far (p := ⟨gb204, 0, none⟩) (Kd.R_far (p := ⟨gb203, 6, none⟩) (Kd.R_far (p := ⟨gb203, 5, none⟩) (Kd.R_far (p := ⟨gb203, 4, none⟩) (Kd.R_mono (Kd.R_mono HO213.out (fun k_ hk => (⟨hk, hk.1.2⟩ : _ ∧ k_ ≠ gb203))) (fun k_ hk => (⟨hk, hk.1.2⟩ : _ ∧ k_ ≠ gb204))) (fun _ hk => hk.1.2) (.slice Ao11 t205.length co11)) (fun _ hk => hk.1.2) (.slice Ao13 t208.length co13)) (fun _ hk => hk.1.2) (.slice Ao15 t211.length co15)) (fun _ hk => hk.2) (.int .i64 a0_0)) (fun _ hk => hk.2) (.string a0_1)) (fun _ hk => hk.2) (.string a0_2)) (fun _ hk => hk.2) (.string a0_3)) (fun _ hk => hk.2) (.slice Ao11 t205.length co11)) (fun _ hk => hk.2) (.slice Ao13 t208.length co13)) (fun _ hk => hk.2) (.slice Ao15 t211.length co15)) (fun _ hk => hk.2) (.string a0_7)) (fun _ hk => ⟨hk.1.1.1.1.1.2, hk.1.1.1.1.2⟩), hB⟩
/-! ### impl_cloneNodes: function 73 -/
mutual
def impl_cloneNodes.l0 : Nat → List (S34) → List (S34) → Int → Int → Option ((List (S34)))
 | 0, _, _, _, _ => none
 | k + 1, x3, x6, x7, x8 => if x8 < x7 then (if 0 ≤ x8 then (if x8 < (x6.length : Int) then ((impl_cloneNode.F (fun y0_ => impl_cloneNodes.f k y0_) k ((rd_T34 x6 x8).f0) ((rd_T34 x6 x8).f1) ((rd_T34 x6 x8).f2) ((rd_T34 x6 x8).f3) ((rd_T34 x6 x8).f4) ((rd_T34 x6 x8).f5) ((rd_T34 x6 x8).f6) ((rd_T34 x6 x8).f7)).bind fun bt216 => (if x3.length < 977343669134 then (impl_cloneNodes.l0 k (x3 ++ [(⟨bt216.1, bt216.2.1, bt216.2.2.1, bt216.2.2.2.1, bt216.2.2.2.2.1, bt216.2.2.2.2.2.1, bt216.2.2.2.2.2.2.1, bt216.2.2.2.2.2.2.2⟩ : S34)]) x6 x7 (wrap64 (x8 + 1))) else (none))) else (none)) else (none)) else (some x3)
def impl_cloneNodes.f : Nat → List (S34) → Option ((List (S34)))
 | 0, _ => none
 | k + 1, l0 => impl_cloneNodes.l0 k ([] : List (S34)) l0 (l0.length : Int) 0
end
theorem impl_cloneNodes.calls (k : Nat) : ∀ (A0 : Option Addr) (c0 : Nat) (l0 : List (S34)) (r : List (S34)) (w : World) (hr0 : Kd.C k34 w A0 l0.length l0) (hc0 : l0.length ≤ c0) (h : impl_cloneNodes.f k l0 = some r),
  Calls Try.prog 73 #[.slice A0 l0.length c0] w fun e w' => ∃ v0_ : Value, e = .returned (v0_) ∧ Kd.R k34 34 w' w.heap.size (fun _ => True) v0_ r ∧ Below w.heap.size w w' := by
 induction k using Nat.strongRecOn with
 | _ k ih =>
 intro A0 c0 l0 r w hr0 hc0 h
 cases k with
 | zero => exact absurd h (by simp [impl_cloneNodes.f])
 | succ k =>
 simp only [impl_cloneNodes.f] at h
 have hu34 := Try.underlying34
 have HR0 := Aside0.mk hr0
 have HC0 := Aside0.mk hc0
 clear hr0 hc0
 have HB := Aside0.mk (Below.refl w.heap.size w)
 have H : (impl_cloneNodes.l0 k ([] : List (S34)) l0 (l0.length : Int) 0) = some r := h
 clear h
 have H' := Aside0.mk H
 clear H
 go_enter Try.func73, Try.ntmps73
 go_wp2
 go_loopg [3, 8] k (fun kq v3 v8 w' => ∃ (x3_1 : List (S34)) (x8_1 : Int), v8 = .int .i64 x8_1 ∧ Aside0 (impl_cloneNodes.l0 kq x3_1 l0 (l0.length : Int) x8_1 = some r) ∧ Aside0 (kq ≤ k) ∧ Aside0 (Kd.R k34 34 w' w.heap.size (fun _ => True) v3 x3_1) ∧ Aside0 (Below w.heap.size w w'))
 case atStart => exact ⟨(([] : List (S34))), (0), rG, H', ⟨Nat.le_refl _⟩, ⟨by first | exact Kd.R_nil _ _ _ _ _ | exact Kd.N_nil _ _ _ _ _ | exact Kd.V_nil _ _ _ _ _ | exact Kd.Q_nil _ _ _ _ _ | exact Kd.S_nil _ _ _ _ _⟩, ⟨hB⟩⟩
 case round =>
  clear H'
  obtain ⟨x3_1, x8_1, rfl, HA, HK1, HO_3, HB⟩ := hrel
  cases gk with
  | zero => exact absurd HA.out (by simp [impl_cloneNodes.l0])
  | succ k1 =>
   have H := HA.out
   clear HA
   simp only [impl_cloneNodes.l0] at H
   by_cases c2 : x8_1 < (l0.length : Int)
   ·rw [if_pos c2] at H
    have c2b0 : decide (x8_1 < (l0.length : Int)) = true := decide_eq_true c2
    clear c2
    obtain ⟨c3, H⟩ := if_som H
    have c3b0 : decide (0 ≤ x8_1) = true := decide_eq_true c3
    clear c3
    obtain ⟨c4, H⟩ := if_som H
    have c4b0 : decide (x8_1 < (l0.length : Int)) = true := decide_eq_true c4
    clear c4
    replace H := Option.bind_eq_some_iff.mp H
    obtain ⟨⟨t216, t217, t218, t219, t220, t223, t226, t229⟩, A50, H⟩ := H
    try dsimp only at H
    have A5 := Aside0.mk A50
    clear A50
    obtain ⟨c6, H⟩ := if_som H
    have LMc6 := Aside0.mk c6
    clear c6
    obtain ⟨y230, hy230⟩ : ∃ y_ : List (S34), y_ = (x3_1 ++ [(⟨t216, t217, t218, t219, t220, t223, t226, t229⟩ : S34)]) := ⟨_, rfl⟩
    replace H : (impl_cloneNodes.l0 k1 y230 l0 (l0.length : Int) (wrap64 (x8_1 + 1))) = some r := by first | (rw [hy230]; with_reducible exact H) | (have H2_ := (Option.bind_some _ _).symm.trans H; rw [hy230]; with_reducible exact H2_) | (have H2_ := (Option.bind_some _ _).symm.trans H; with_reducible exact H2_) | with_reducible exact H | (rw [hy230]; exact H) | exact H
    have Ny230 := Aside0.mk hy230
    clear hy230
    have H' := Aside0.mk H
    clear H
    have p214 : 0 ≤ (x8_1 : Int) := odt
    have q214 : x8_1 < (l0.length : Int) := odt
    obtain ⟨ad214, A214_4, c214_4, A214_5, c214_5, A214_6, c214_6, e214, hx214_0, hx214_1, hx214_2, hx214_3, hx214_4, hx214_5, hx214_6, hx214_7, hl214_4, hi214_4, hl214_5, hi214_5, hl214_6, hi214_6⟩ := at_T34 HR0.out x8_1 p214 q214
    cases e214
    replace hx214_0 := pw_cell_below HB.out hx214_0
    replace hx214_1 := pw_cell_below HB.out hx214_1
    replace hx214_2 := pw_cell_below HB.out hx214_2
    replace hx214_3 := pw_cell_below HB.out hx214_3
    replace hx214_4 := pw_cell_below HB.out hx214_4
    replace hx214_5 := pw_cell_below HB.out hx214_5
    replace hx214_6 := pw_cell_below HB.out hx214_6
    replace hx214_7 := pw_cell_below HB.out hx214_7
    have HR214_4 := Aside0.mk hi214_4
    have HC214_4 := Aside0.mk hl214_4
    clear hi214_4 hl214_4
    have HR214_5 := Aside0.mk hi214_5
    have HC214_5 := Aside0.mk hl214_5
    clear hi214_5 hl214_5
    have HR214_6 := Aside0.mk hi214_6
    have HC214_6 := Aside0.mk hl214_6
    clear hi214_6 hl214_6
    replace p214 := eq_true p214
    replace q214 := eq_true q214
    go_wp2_with (first | ((with_reducible refine gate_dst (N := 5) rfl ?_); refine box_event ?hg (N := 5) ?hd (cs := #[.int .i64 0, .string (⟨#[]⟩ : ByteArray), .string (⟨#[]⟩ : ByteArray), .string (⟨#[]⟩ : ByteArray), .slice none 0 0, .slice none 0 0, .slice none 0 0, .string (⟨#[]⟩ : ByteArray)]) (t := 34) ?hr ?_; (case hd => rfl); (case hg => rfl); (case hr => first | (go_simp; done) | (go_simp; rfl)); intro gb215 hg w7 hbox hb; replace HO_3 := Aside0.mk (Kd.R_below (Kd.R_elderB (by (with_reducible repeat (first|apply rA|apply rN|apply rD)); exact HO_3.out) gb215 (Nat.le_of_eq hg.symm)) hb); have BK215 := Aside0.mk (hbox); have GW215 := Aside0.mk ((by rw [hg]; exact (below_size hB) : w.heap.size ≤ gb215)); have GE215 := Aside0.mk ((by rw [hg]; exact (below_size hB) : w.heap.size ≤ gb215)); replace HB := Aside0.mk (below_step hB hb); clear hb hbox hg; obtain ⟨hcz8_0, hcz8_1, hcz8_2, hcz8_3, hcz8_4, hcz8_5, hcz8_6, hcz8_7⟩ := bc8 BK215.out; obtain ⟨hfz8_0, hfz8_1, hfz8_2, hfz8_3, hfz8_4, hfz8_5, hfz8_6, hfz8_7⟩ := bf8 BK215.out) | ((with_reducible refine gate_callee (f := 47) rfl ?_); refine goesL_ (some 14) rfl rfl Try.func47 (by kernel_rfl) rfl #[.agg #[.int .i64 ((rd_T34 l0 x8_1).f0), .string ((rd_T34 l0 x8_1).f1), .string ((rd_T34 l0 x8_1).f2), .string ((rd_T34 l0 x8_1).f3), .slice A214_4 ((rd_T34 l0 x8_1).f4).length c214_4, .slice A214_5 ((rd_T34 l0 x8_1).f5).length c214_5, .slice A214_6 ((rd_T34 l0 x8_1).f6).length c214_6, .string ((rd_T34 l0 x8_1).f7)]] rfl mA ?_; (with_reducible refine (impl_cloneNode.callsF (impl_cloneNodes.f k1) (ih k1 (by first | omega | (have := HK1.out; omega))) k1 ((rd_T34 l0 x8_1).f0) ((rd_T34 l0 x8_1).f1) ((rd_T34 l0 x8_1).f2) ((rd_T34 l0 x8_1).f3) _ _ ((rd_T34 l0 x8_1).f4) _ _ ((rd_T34 l0 x8_1).f5) _ _ ((rd_T34 l0 x8_1).f6) ((rd_T34 l0 x8_1).f7) t216 t217 t218 t219 t220 t223 t226 t229 _ ?side1 ?side2 ?side3 ?side4 ?side5 ?side6 A5.out).mono ?_); (case side1 => exact Kd.C_below HR214_4.out hB); (case side2 => exact HC214_4.out); (case side3 => exact Kd.C_below HR214_5.out hB); (case side4 => exact HC214_5.out); (case side5 => exact Kd.C_below HR214_6.out hB); (case side6 => exact HC214_6.out); rintro e w9 ⟨v221, v224, v227, rfl, ho0, ho1, ho2, hb⟩; refine ⟨_, rfl, ?_⟩; have HO222 := Aside0.mk (Kd.R_lower ho0 (below_size hB)); have HO225 := Aside0.mk (Kd.R_lower ho1 (below_size hB)); have HO228 := Aside0.mk (Kd.R_lower (Kd.R_newB (Kd.R_new' ho2 (Kd.R_lt (by (with_reducible repeat (first|apply rA|apply rN|apply rD)); exact (Kd.R_mono (Kd.R_far (p := ⟨gb215, 7, none⟩) (Kd.R_far (p := ⟨gb215, 6, none⟩) (Kd.R_far (p := ⟨gb215, 5, none⟩) (Kd.R_far (p := ⟨gb215, 4, none⟩) (Kd.R_far (p := ⟨gb215, 3, none⟩) (Kd.R_far (p := ⟨gb215, 2, none⟩) (Kd.R_far (p := ⟨gb215, 1, none⟩) (Kd.R_far (p := ⟨gb215, 0, none⟩) (Kd.R_mono HO_3.out (fun k_ hk => (⟨hk, hk.2⟩ : _ ∧ k_ ≠ gb215))) (fun _ hk => hk.2) (.int .i64 ((rd_T34 l0 x8_1).f0))) (fun _ hk => hk.2) (.string ((rd_T34 l0 x8_1).f1))) (fun _ hk => hk.2) (.string ((rd_T34 l0 x8_1).f2))) (fun _ hk => hk.2) (.string ((rd_T34 l0 x8_1).f3))) (fun _ hk => hk.2) (.slice A214_4 ((rd_T34 l0 x8_1).f4).length c214_4)) (fun _ hk => hk.2) (.slice A214_5 ((rd_T34 l0 x8_1).f5).length c214_5)) (fun _ hk => hk.2) (.slice A214_6 ((rd_T34 l0 x8_1).f6).length c214_6)) (fun _ hk => hk.2) (.string ((rd_T34 l0 x8_1).f7))) (fun _ h_ => h_.1))))) (g := gb215) (by (with_reducible repeat (first | refine bN ?_ _|refine bD ?_|refine bA ?_ _)); exact put8 (by (with_reducible repeat (first | refine bN ?_ _|refine bD ?_|refine bA ?_ _)); exact BK215.out))) (below_size hB)); replace HO_3 := Aside0.mk (Kd.R_mono (Kd.R_told (Kd.R_told (Kd.R_told (Kd.R_old (by (with_reducible repeat (first|apply rA|apply rN|apply rD)); exact (Kd.R_mono (Kd.R_far (p := ⟨gb215, 7, none⟩) (Kd.R_far (p := ⟨gb215, 6, none⟩) (Kd.R_far (p := ⟨gb215, 5, none⟩) (Kd.R_far (p := ⟨gb215, 4, none⟩) (Kd.R_far (p := ⟨gb215, 3, none⟩) (Kd.R_far (p := ⟨gb215, 2, none⟩) (Kd.R_far (p := ⟨gb215, 1, none⟩) (Kd.R_far (p := ⟨gb215, 0, none⟩) (Kd.R_mono HO_3.out (fun k_ hk => (⟨hk, hk.2⟩ : _ ∧ k_ ≠ gb215))) (fun _ hk => hk.2) (.int .i64 ((rd_T34 l0 x8_1).f0))) (fun _ hk => hk.2) (.string ((rd_T34 l0 x8_1).f1))) (fun _ hk => hk.2) (.string ((rd_T34 l0 x8_1).f2))) (fun _ hk => hk.2) (.string ((rd_T34 l0 x8_1).f3))) (fun _ hk => hk.2) (.slice A214_4 ((rd_T34 l0 x8_1).f4).length c214_4)) (fun _ hk => hk.2) (.slice A214_5 ((rd_T34 l0 x8_1).f5).length c214_5)) (fun _ hk => hk.2) (.slice A214_6 ((rd_T34 l0 x8_1).f6).length c214_6)) (fun _ hk => hk.2) (.string ((rd_T34 l0 x8_1).f7))) (fun _ h_ => h_.1))) hb) (Kd.R_base ho0)) (Kd.R_base ho1)) (Kd.R_base ho2)) (fun _ h_ => h_.1)); replace BK215 := Aside0.mk (blk_below (g := gb215) (by (with_reducible repeat (first | refine bN ?_ _|refine bD ?_|refine bA ?_ _)); exact put8 (by (with_reducible repeat (first | refine bN ?_ _|refine bD ?_|refine bA ?_ _)); exact BK215.out)) hb); replace HB := Aside0.mk (below_step hB hb); (try clear hb); (try clear hb2); (try clear hk); (try clear hi); (try clear ho0); (try clear ho1); (try clear ho2); obtain ⟨Ao11, co11, eo11⟩ := Kd.R_slice HO222.out; subst eo11; obtain ⟨Ao12, co12, eo12⟩ := Kd.R_slice HO225.out; subst eo12; obtain ⟨Ao13, co13, eo13⟩ := Kd.R_slice HO228.out; subst eo13) | ((with_reducible refine gate_builtin (b := .append) (xs := #[.tmp 12, .tmp 15]) rfl ?_); at_builtin; refine Kd.R_append k34 (w0 := w) w.heap.size rfl (.tmp 12) (.tmp 15) 32 34 (.agg #[(.int .i64 0), (.string ⟨#[]⟩), (.string ⟨#[]⟩), (.string ⟨#[]⟩), (.slice none 0 0), (.slice none 0 0), (.slice none 0 0), (.string ⟨#[]⟩)]) 144 rfl Try.underlying32 info34 rfl (by decide) (by omega) u3 x3_1 (⟨t216, t217, t218, t219, t220, t223, t226, t229⟩ : S34) [.int .i64 t216, .string t217, .string t218, .string t219, .slice Ao11 t220.length co11, .slice Ao12 t223.length co12, .slice Ao13 t226.length co13, .string t229] (fun k_ => k_ ≠ gb215) (fun k_ => ((fun k_ => k_ ≠ gb215)) k_ ∧ some k_ ≠ (u3 : Value).ownBlock) rfl rfl ?aP (fun _ hk => hk) ?aF ?aO ?aB ?aS ?aL ?_; (case aP => exact k34_mkM _ _ _ (⟨t216, t217, t218, t219, t220, t223, t226, t229⟩ : S34) (Kd.R_mono (Kd.R_types (Kd.R_apart' (HO222.out) (Kd.R_typed HO_3.out) (by decide)) BK215.out (by decide)) (fun k_ hk => ⟨hk.2, hk.1.2⟩)) (Kd.R_mono (Kd.R_types (Kd.R_apart' (HO225.out) (Kd.R_typed HO_3.out) (by decide)) BK215.out (by decide)) (fun k_ hk => ⟨hk.2, hk.1.2⟩)) (Kd.R_mono (HO228.out) (fun k_ hk => ⟨hk.2, hk.1.2⟩))); (case aB => exact hB); (case aF => exact (fun k_ hk => Kd.freshB (g := gb215) (by (with_reducible repeat (first | refine bN ?_ _|refine bD ?_|refine bA ?_ _)); exact BK215.out) k_ hk)); (case aO => exact (by (with_reducible repeat (first|apply rA|apply rN|apply rD)); exact Kd.R_mono HO_3.out (fun _ hk => hk.1.1.1.2))); (case aS => exact (below_size hB)); (case aL => have := LMc6.out; omega); intro v231 w10 ho hb hg hat; rw [← Ny230.out] at ho; replace BK215 := Aside0.mk (blk_grown (g := gb215) (by (with_reducible repeat (first | refine bN ?_ _|refine bD ?_|refine bA ?_ _)); exact BK215.out) hg (Kd.R_away HO_3.out (fun _ hk => hk.1.1.1.2))); replace HB := Aside0.mk (hb); have HO232 := Aside0.mk (ho); clear HO_3; clear HO222; clear HO225; clear HO228; clear ho hb hg hat))
    go_roundg k1
    case measure => have := HK1.out; omega
    case rel => exact ⟨(y230), (wrap64 (x8_1 + 1)), rG, H', ⟨by have := HK1.out; omega⟩, ⟨by (with_reducible repeat (first|apply rA|apply rN|apply rD)); exact Kd.R_mono HO232.out (fun _ hk => trivial)⟩, ⟨hB⟩⟩
   ·rw [if_neg c2] at H
    have c2b0 : decide (x8_1 < (l0.length : Int)) = false := decide_eq_false c2
    clear c2
    obtain rfl := Option.some.inj H
    go_wp2
    go_ret
    exact ⟨_, rE, by (with_reducible repeat (first|apply rA|apply rN|apply rD)); exact HO_3.out, hB⟩
def impl_cloneNode.f (k : Nat) (a0_0 : Int) (a0_1 : ByteArray) (a0_2 : ByteArray) (a0_3 : ByteArray) (l0_4 : List (S88)) (l0_5 : List (S90)) (l0_6 : List (S34)) (a0_7 : ByteArray) : Option (Int × ByteArray × ByteArray × ByteArray × (List (S88)) × (List (S90)) × (List (S34)) × ByteArray) := impl_cloneNode.F (impl_cloneNodes.f k) k a0_0 a0_1 a0_2 a0_3 l0_4 l0_5 l0_6 a0_7
theorem impl_cloneNode.calls (k : Nat) (a0_0 : Int) (a0_1 : ByteArray) (a0_2 : ByteArray) (a0_3 : ByteArray) (A0_4 : Option Addr) (c0_4 : Nat) (l0_4 : List (S88)) (A0_5 : Option Addr) (c0_5 : Nat) (l0_5 : List (S90)) (A0_6 : Option Addr) (c0_6 : Nat) (l0_6 : List (S34)) (a0_7 : ByteArray) (r1 : Int) (r2 : ByteArray) (r3 : ByteArray) (r4 : ByteArray) (r5 : List (S88)) (r6 : List (S90)) (r7 : List (S34)) (r8 : ByteArray) (w : World) (hr0_4 : Kd.C k88 w A0_4 l0_4.length l0_4) (hc0_4 : l0_4.length ≤ c0_4) (hr0_5 : Kd.C k90 w A0_5 l0_5.length l0_5) (hc0_5 : l0_5.length ≤ c0_5) (hr0_6 : Kd.C k34 w A0_6 l0_6.length l0_6) (hc0_6 : l0_6.length ≤ c0_6) (h : impl_cloneNode.f k a0_0 a0_1 a0_2 a0_3 l0_4 l0_5 l0_6 a0_7 = some (r1, r2, r3, r4, r5, r6, r7, r8)) :
  Calls Try.prog 47 #[.agg #[.int .i64 a0_0, .string a0_1, .string a0_2, .string a0_3, .slice A0_4 l0_4.length c0_4, .slice A0_5 l0_5.length c0_5, .slice A0_6 l0_6.length c0_6, .string a0_7]] w fun e w' => ∃ v4_ v5_ v6_ : Value, e = .returned (.agg #[.int .i64 r1, .string r2, .string r3, .string r4, v4_, v5_, v6_, .string r8]) ∧ Kd.R k88 88 w' w.heap.size (fun _ => True) v4_ r5 ∧ Kd.R k90 90 w' w.heap.size (fun _ => True) v5_ r6 ∧ Kd.R k34 34 w' w.heap.size (fun k_ => some k_ ≠ (v4_ : Value).ownBlock ∧ some k_ ≠ (v5_ : Value).ownBlock) v6_ r7 ∧ Below w.heap.size w w' := impl_cloneNode.callsF (impl_cloneNodes.f k) (impl_cloneNodes.calls k) k a0_0 a0_1 a0_2 a0_3 A0_4 c0_4 l0_4 A0_5 c0_5 l0_5 A0_6 c0_6 l0_6 a0_7 r1 r2 r3 r4 r5 r6 r7 r8 w hr0_4 hc0_4 hr0_5 hc0_5 hr0_6 hc0_6 h

/-! ### impl_Merge: function 20 -/
mutual
def impl_Merge.l0 : Nat → List (S34) → List (S34) → Int → Int → Option ((List (S34)))
 | 0, _, _, _, _ => none
 | k + 1, x3, x7, x8, x9 => if x9 < x8 then (if 0 ≤ x9 then (if x9 < (x7.length : Int) then (if ((rd_T34 x7 x9).f0) = 2 then (impl_Merge.j1 k x3 (x3.length : Int) x7 x8 x9 (((rd_T34 x7 x9).f7).toList == ([] : List UInt8)) ((rd_T34 x7 x9).f0) ((rd_T34 x7 x9).f1) ((rd_T34 x7 x9).f2) ((rd_T34 x7 x9).f3) ((rd_T34 x7 x9).f4) ((rd_T34 x7 x9).f5) ((rd_T34 x7 x9).f6) ((rd_T34 x7 x9).f7)) else (impl_Merge.j1 k x3 (x3.length : Int) x7 x8 x9 false ((rd_T34 x7 x9).f0) ((rd_T34 x7 x9).f1) ((rd_T34 x7 x9).f2) ((rd_T34 x7 x9).f3) ((rd_T34 x7 x9).f4) ((rd_T34 x7 x9).f5) ((rd_T34 x7 x9).f6) ((rd_T34 x7 x9).f7))) else (none)) else (none)) else (some x3)
def impl_Merge.j1 : Nat → List (S34) → Int → List (S34) → Int → Int → Bool → Int → ByteArray → ByteArray → ByteArray → List (S88) → List (S90) → List (S34) → ByteArray → Option ((List (S34)))
 | 0, _, _, _, _, _, _, _, _, _, _, _, _, _, _ => none
 | k + 1, x3, x6, x7, x8, x9, x20, x235000, x235001, x235002, x235003, x235004, x235005, x235006, x235007 => if x20 = true then (impl_Merge.l0 k x3 x7 x8 (wrap64 (x9 + 1))) else (if x235000 = 2 then (if x6 > 0 then (if 0 ≤ (wrap64 (x6 - 1)) then (if (wrap64 (x6 - 1)) < (x3.length : Int) then (if ((rd_T34 x3 (wrap64 (x6 - 1))).f0) = 2 then (if ((rd_T34 x3 (wrap64 (x6 - 1))).f7).size + x235007.size ≤ 9223372036854775807 then (impl_Merge.l0 k (x3.set ((wrap64 (x6 - 1)) : Int).toNat (⟨(rd_T34 x3 (wrap64 (x6 - 1))).f0, (rd_T34 x3 (wrap64 (x6 - 1))).f1, (rd_T34 x3 (wrap64 (x6 - 1))).f2, (rd_T34 x3 (wrap64 (x6 - 1))).f3, (rd_T34 x3 (wrap64 (x6 - 1))).f4, (rd_T34 x3 (wrap64 (x6 - 1))).f5, (rd_T34 x3 (wrap64 (x6 - 1))).f6, ((rd_T34 x3 (wrap64 (x6 - 1))).f7) ++ x235007⟩ : S34)) x7 x8 (wrap64 (x9 + 1))) else (none)) else ((impl_cloneNode.f k x235000 x235001 x235002 x235003 x235004 x235005 x235006 x235007).bind fun bt238 => (if x3.length < 977343669134 then (impl_Merge.l0 k (x3 ++ [(⟨bt238.1, bt238.2.1, bt238.2.2.1, bt238.2.2.2.1, bt238.2.2.2.2.1, bt238.2.2.2.2.2.1, bt238.2.2.2.2.2.2.1, bt238.2.2.2.2.2.2.2⟩ : S34)]) x7 x8 (wrap64 (x9 + 1))) else (none)))) else (none)) else (none)) else ((impl_cloneNode.f k x235000 x235001 x235002 x235003 x235004 x235005 x235006 x235007).bind fun bt255 => (if x3.length < 977343669134 then (impl_Merge.l0 k (x3 ++ [(⟨bt255.1, bt255.2.1, bt255.2.2.1, bt255.2.2.2.1, bt255.2.2.2.2.1, bt255.2.2.2.2.2.1, bt255.2.2.2.2.2.2.1, bt255.2.2.2.2.2.2.2⟩ : S34)]) x7 x8 (wrap64 (x9 + 1))) else (none)))) else ((impl_cloneNode.f k x235000 x235001 x235002 x235003 x235004 x235005 x235006 x235007).bind fun bt272 => (if x3.length < 977343669134 then (impl_Merge.l0 k (x3 ++ [(⟨bt272.1, bt272.2.1, bt272.2.2.1, bt272.2.2.2.1, bt272.2.2.2.2.1, bt272.2.2.2.2.2.1, bt272.2.2.2.2.2.2.1, bt272.2.2.2.2.2.2.2⟩ : S34)]) x7 x8 (wrap64 (x9 + 1))) else (none))))
end
def impl_Merge.f (k : Nat) (l0 : List (S34)) : Option ((List (S34))) := impl_Merge.l0 k ([] : List (S34)) l0 (l0.length : Int) 0
def impl_Merge.T9 : Bool × List (List Nat × List Nat) := (true, [([], []), ([], []), ([1], [1]), ([0, 2], [0, 2]), ([3], [3]), ([4], [4]), ([], []), ([6], [6]), ([5, 7], [5, 7]), ([0, 2, 0, 1, 2, 3, 4, 5, 6, 7, 8], [0, 2]), ([9, 0, 1, 2, 3, 4, 5, 6, 7, 8], [9]), ([10, 8, 0, 1, 2, 3, 4, 5, 6, 7, 8], [8, 10])])
def impl_Merge.B9 : List Nat := [0, 0, 2, 7, 15, 31, 0, 64, 255, 511, 1023, 2047]
theorem impl_Merge.tab9 : rtab .any (opsOf Try.f20 9) = impl_Merge.T9 := by kernel_rfl
theorem impl_Merge.bits9 : waitsOk impl_Merge.T9.2 impl_Merge.B9 = true := by kernel_rfl
theorem impl_Merge.calls (k : Nat) (A0 : Option Addr) (c0 : Nat) (l0 : List (S34)) (r : List (S34)) (w : World) (hr0 : Kd.C k34 w A0 l0.length l0) (hc0 : l0.length ≤ c0) (h : impl_Merge.f k l0 = some r) :
  Calls Try.prog 20 #[.slice A0 l0.length c0] w fun e w' => ∃ v0_ : Value, e = .returned (v0_) ∧ Kd.R k34 34 w' w.heap.size (fun _ => True) v0_ r ∧ Below w.heap.size w w' := by
 have hu34 := Try.underlying34
 have HR0 := Aside0.mk hr0
 have HC0 := Aside0.mk hc0
 clear hr0 hc0
 have HB := Aside0.mk (Below.refl w.heap.size w)
 have H : (impl_Merge.l0 k ([] : List (S34)) l0 (l0.length : Int) 0) = some r := h
 clear h
 have H' := Aside0.mk H
 clear H
 go_enter Try.func20, Try.ntmps20
 go_wp2
 go_loopg [3, 9] k (fun kq v3 v9 w' => ∃ (x3_1 : List (S34)) (x9_1 : Int), v9 = .int .i64 x9_1 ∧ Aside0 (impl_Merge.l0 kq x3_1 l0 (l0.length : Int) x9_1 = some r) ∧ Aside0 (kq ≤ k) ∧ Aside0 (Kd.R k34 34 w' w.heap.size (fun _ => True) v3 x3_1) ∧ Aside0 (Below w.heap.size w w'))
 case atStart => exact ⟨(([] : List (S34))), (0), rG, H', ⟨Nat.le_refl _⟩, ⟨by first | exact Kd.R_nil _ _ _ _ _ | exact Kd.N_nil _ _ _ _ _ | exact Kd.V_nil _ _ _ _ _ | exact Kd.Q_nil _ _ _ _ _ | exact Kd.S_nil _ _ _ _ _⟩, ⟨hB⟩⟩
 case round =>
  clear H'
  obtain ⟨x3_1, x9_1, rfl, HA, HK1, HO_3, HB⟩ := hrel
  cases gk with
  | zero => exact absurd HA.out (by simp [impl_Merge.l0])
  | succ k1 =>
   have H := HA.out
   clear HA
   simp only [impl_Merge.l0] at H
   by_cases c2 : x9_1 < (l0.length : Int)
   ·rw [if_pos c2] at H
    have c2b0 : decide (x9_1 < (l0.length : Int)) = true := decide_eq_true c2
    clear c2
    obtain ⟨c3, H⟩ := if_som H
    have c3b0 : decide (0 ≤ x9_1) = true := decide_eq_true c3
    clear c3
    obtain ⟨c4, H⟩ := if_som H
    have c4b0 : decide (x9_1 < (l0.length : Int)) = true := decide_eq_true c4
    clear c4
    have HC5 := Aside0.mk H
    clear H
    have p233 : 0 ≤ (x9_1 : Int) := odt
    have q233 : x9_1 < (l0.length : Int) := odt
    obtain ⟨ad233, A233_4, c233_4, A233_5, c233_5, A233_6, c233_6, e233, hx233_0, hx233_1, hx233_2, hx233_3, hx233_4, hx233_5, hx233_6, hx233_7, hl233_4, hi233_4, hl233_5, hi233_5, hl233_6, hi233_6⟩ := at_T34 HR0.out x9_1 p233 q233
    cases e233
    replace hx233_0 := pw_cell_below HB.out hx233_0
    replace hx233_1 := pw_cell_below HB.out hx233_1
    replace hx233_2 := pw_cell_below HB.out hx233_2
    replace hx233_3 := pw_cell_below HB.out hx233_3
    replace hx233_4 := pw_cell_below HB.out hx233_4
    replace hx233_5 := pw_cell_below HB.out hx233_5
    replace hx233_6 := pw_cell_below HB.out hx233_6
    replace hx233_7 := pw_cell_below HB.out hx233_7
    have HR233_4 := Aside0.mk hi233_4
    have HC233_4 := Aside0.mk hl233_4
    clear hi233_4 hl233_4
    have HR233_5 := Aside0.mk hi233_5
    have HC233_5 := Aside0.mk hl233_5
    clear hi233_5 hl233_5
    have HR233_6 := Aside0.mk hi233_6
    have HC233_6 := Aside0.mk hl233_6
    clear hi233_6 hl233_6
    replace p233 := eq_true p233
    replace q233 := eq_true q233
    go_upto_region 7 with (first | ((with_reducible refine gate_dst (N := 5) rfl ?_); refine box_event ?hg (N := 5) ?hd (cs := #[.int .i64 0, .string (⟨#[]⟩ : ByteArray), .string (⟨#[]⟩ : ByteArray), .string (⟨#[]⟩ : ByteArray), .slice none 0 0, .slice none 0 0, .slice none 0 0, .string (⟨#[]⟩ : ByteArray)]) (t := 34) ?hr ?_; (case hd => rfl); (case hg => rfl); (case hr => first | (go_simp; done) | (go_simp; rfl)); intro gb234 hg w6 hbox hb; replace HO_3 := Aside0.mk (Kd.R_below (Kd.R_elderB (by (with_reducible repeat (first|apply rA|apply rN|apply rD)); exact HO_3.out) gb234 (Nat.le_of_eq hg.symm)) hb); have BK234 := Aside0.mk (hbox); have GW234 := Aside0.mk ((by rw [hg]; exact (below_size hB) : w.heap.size ≤ gb234)); have GE234 := Aside0.mk ((by rw [hg]; exact (below_size hB) : w.heap.size ≤ gb234)); replace HB := Aside0.mk (below_step hB hb); clear hb hbox hg; obtain ⟨hcz7_0, hcz7_1, hcz7_2, hcz7_3, hcz7_4, hcz7_5, hcz7_6, hcz7_7⟩ := bc8 BK234.out; obtain ⟨hfz7_0, hfz7_1, hfz7_2, hfz7_3, hfz7_4, hfz7_5, hfz7_6, hfz7_7⟩ := bf8 BK234.out; obtain ⟨Ao8, co8, eo8⟩ := Kd.R_slice HO_3.out; subst eo8))
    (try simp only [Act.put, sT, sZ, sS])
    go_cut [20] (fun v20 wc => ∃ (kq : Nat) (x20_4 : Bool), v20 = .bool x20_4 ∧ Aside0 (impl_Merge.j1 kq x3_1 (x3_1.length : Int) l0 (l0.length : Int) x9_1 x20_4 ((rd_T34 l0 x9_1).f0) ((rd_T34 l0 x9_1).f1) ((rd_T34 l0 x9_1).f2) ((rd_T34 l0 x9_1).f3) ((rd_T34 l0 x9_1).f4) ((rd_T34 l0 x9_1).f5) ((rd_T34 l0 x9_1).f6) ((rd_T34 l0 x9_1).f7) = some r) ∧ Aside0 (kq ≤ k1) ∧ Aside0 (Kd.R k34 34 wc w.heap.size (fun k_ => k_ ≠ gb234) (.slice Ao8 x3_1.length co8) x3_1) ∧ Aside0 (wc.heap[gb234]? = some (.cells #[.int .i64 ((rd_T34 l0 x9_1).f0), .string ((rd_T34 l0 x9_1).f1), .string ((rd_T34 l0 x9_1).f2), .string ((rd_T34 l0 x9_1).f3), (.slice A233_4 ((rd_T34 l0 x9_1).f4).length c233_4), (.slice A233_5 ((rd_T34 l0 x9_1).f5).length c233_5), (.slice A233_6 ((rd_T34 l0 x9_1).f6).length c233_6), .string ((rd_T34 l0 x9_1).f7)] 34 (0, 0))) ∧ Aside0 (Below w.heap.size w wc))
    case first =>
     have H := HC5.out
     clear HC5
     by_cases c9 : ((rd_T34 l0 x9_1).f0) = 2
     ·rw [if_pos c9] at H
      obtain ⟨c9b0, c9b1⟩ := eqT c9
      clear c9
      (first | rw [c9b0] | (simp only [i64_w, i32_w]; rw [c9b0]) | skip)
      have H' := Aside0.mk H
      clear H
      obtain ⟨hcz10_0, hcz10_1, hcz10_2, hcz10_3, hcz10_4, hcz10_5, hcz10_6, hcz10_7⟩ := bc8 BK234.out
      obtain ⟨hfz10_0, hfz10_1, hfz10_2, hfz10_3, hfz10_4, hfz10_5, hfz10_6, hfz10_7⟩ := bf8 BK234.out
      go_wp2
      go_meet
      case rel => exact ⟨_, ((((rd_T34 l0 x9_1).f7).toList == ([] : List UInt8))), rG, H', ⟨by have := HK1.out; first | omega | exact Nat.le_refl _⟩, ⟨by (with_reducible repeat (first|apply rA|apply rN|apply rD)); exact Kd.R_mono (Kd.R_far (p := ⟨gb234, 7, none⟩) (Kd.R_far (p := ⟨gb234, 6, none⟩) (Kd.R_far (p := ⟨gb234, 5, none⟩) (Kd.R_far (p := ⟨gb234, 4, none⟩) (Kd.R_far (p := ⟨gb234, 3, none⟩) (Kd.R_far (p := ⟨gb234, 2, none⟩) (Kd.R_far (p := ⟨gb234, 1, none⟩) (Kd.R_far (p := ⟨gb234, 0, none⟩) (Kd.R_mono HO_3.out (fun k_ hk => (⟨hk, hk.2⟩ : _ ∧ k_ ≠ gb234))) (fun _ hk => hk.2) (.int .i64 ((rd_T34 l0 x9_1).f0))) (fun _ hk => hk.2) (.string ((rd_T34 l0 x9_1).f1))) (fun _ hk => hk.2) (.string ((rd_T34 l0 x9_1).f2))) (fun _ hk => hk.2) (.string ((rd_T34 l0 x9_1).f3))) (fun _ hk => hk.2) (.slice A233_4 ((rd_T34 l0 x9_1).f4).length c233_4)) (fun _ hk => hk.2) (.slice A233_5 ((rd_T34 l0 x9_1).f5).length c233_5)) (fun _ hk => hk.2) (.slice A233_6 ((rd_T34 l0 x9_1).f6).length c233_6)) (fun _ hk => hk.2) (.string ((rd_T34 l0 x9_1).f7))) (fun _ hk => hk.1.2)⟩, ⟨by (with_reducible repeat (first | refine bN ?_ _|refine bD ?_|refine bA ?_ _)); exact put8 (by (with_reducible repeat (first | refine bN ?_ _|refine bD ?_|refine bA ?_ _)); exact BK234.out)⟩, ⟨hB⟩⟩
     ·rw [if_neg c9] at H
      obtain ⟨c9b0, c9b1⟩ := eqF c9
      (first | rw [c9b0] | (simp only [i64_w, i32_w]; rw [c9b0]) | skip)
      have H' := Aside0.mk H
      clear H
      obtain ⟨hcz11_0, hcz11_1, hcz11_2, hcz11_3, hcz11_4, hcz11_5, hcz11_6, hcz11_7⟩ := bc8 BK234.out
      obtain ⟨hfz11_0, hfz11_1, hfz11_2, hfz11_3, hfz11_4, hfz11_5, hfz11_6, hfz11_7⟩ := bf8 BK234.out
      go_wp2
      go_meet
      case rel => exact ⟨_, (false), rG, H', ⟨by have := HK1.out; first | omega | exact Nat.le_refl _⟩, ⟨by (with_reducible repeat (first|apply rA|apply rN|apply rD)); exact Kd.R_mono (Kd.R_far (p := ⟨gb234, 7, none⟩) (Kd.R_far (p := ⟨gb234, 6, none⟩) (Kd.R_far (p := ⟨gb234, 5, none⟩) (Kd.R_far (p := ⟨gb234, 4, none⟩) (Kd.R_far (p := ⟨gb234, 3, none⟩) (Kd.R_far (p := ⟨gb234, 2, none⟩) (Kd.R_far (p := ⟨gb234, 1, none⟩) (Kd.R_far (p := ⟨gb234, 0, none⟩) (Kd.R_mono HO_3.out (fun k_ hk => (⟨hk, hk.2⟩ : _ ∧ k_ ≠ gb234))) (fun _ hk => hk.2) (.int .i64 ((rd_T34 l0 x9_1).f0))) (fun _ hk => hk.2) (.string ((rd_T34 l0 x9_1).f1))) (fun _ hk => hk.2) (.string ((rd_T34 l0 x9_1).f2))) (fun _ hk => hk.2) (.string ((rd_T34 l0 x9_1).f3))) (fun _ hk => hk.2) (.slice A233_4 ((rd_T34 l0 x9_1).f4).length c233_4)) (fun _ hk => hk.2) (.slice A233_5 ((rd_T34 l0 x9_1).f5).length c233_5)) (fun _ hk => hk.2) (.slice A233_6 ((rd_T34 l0 x9_1).f6).length c233_6)) (fun _ hk => hk.2) (.string ((rd_T34 l0 x9_1).f7))) (fun _ hk => hk.1.2)⟩, ⟨by (with_reducible repeat (first | refine bN ?_ _|refine bD ?_|refine bA ?_ _)); exact put8 (by (with_reducible repeat (first | refine bN ?_ _|refine bD ?_|refine bA ?_ _)); exact BK234.out)⟩, ⟨hB⟩⟩
    case rest =>
     clear HC5
     try clear c4; try clear c4b0; try clear c3; try clear c3b0; try clear c2; try clear c2b0
     try clear hcz7_0 hcz7_1 hcz7_2 hcz7_3 hcz7_4 hcz7_5 hcz7_6 hcz7_7
     try clear hfz7_0 hfz7_1 hfz7_2 hfz7_3 hfz7_4 hfz7_5 hfz7_6 hfz7_7
     try clear hx233_0
     try clear hx233_1
     try clear hx233_2
     try clear hx233_3
     try clear hx233_4
     try clear hx233_5
     try clear hx233_6
     try clear hx233_7
     try clear p233
     try clear q233
     obtain ⟨kq, x20_4, rfl, HA, HJ4, HO_3, BK234, HB⟩ := hcut
     cases kq with
     | zero => exact absurd HA.out (by simp [impl_Merge.j1])
     | succ kj4 =>
      have H := HA.out
      clear HA
      simp only [impl_Merge.j1] at H
      by_cases c12 : x20_4 = true
      ·subst c12
       rw [if_pos rfl] at H
       have H' := Aside0.mk H
       clear H
       go_wp2
       go_roundg kj4
       case measure => have := HK1.out; have := HJ4.out; omega
       case rel => exact ⟨(x3_1), (wrap64 (x9_1 + 1)), rG, H', ⟨by have := HK1.out; have := HJ4.out; omega⟩, ⟨by (with_reducible repeat (first|apply rA|apply rN|apply rD)); exact Kd.R_mono HO_3.out (fun _ hk => trivial)⟩, ⟨hB⟩⟩
      ·replace c12 := Bool.eq_false_iff.mpr c12
       subst c12
       rw [if_neg (show ¬ (false = true) by decide)] at H
       by_cases c13 : ((rd_T34 l0 x9_1).f0) = 2
       ·rw [if_pos c13] at H
        obtain ⟨c13b0, c13b1⟩ := eqT c13
        clear c13
        by_cases c14 : (x3_1.length : Int) > 0
        ·rw [if_pos c14] at H
         have c14b0 : decide (0 < (x3_1.length : Int)) = true := decide_eq_true c14
         have c14b1 : decide (0 < x3_1.length) = true := decide_eq_true (by omega)
         clear c14
         obtain ⟨ji15, hji15⟩ : ∃ j_ : Int, (wrap64 ((x3_1.length : Int) - 1)) = j_ := ⟨_, rfl⟩
         replace H : (if 0 ≤ (ji15) then (if (ji15) < (x3_1.length : Int) then (if ((rd_T34 x3_1 (ji15)).f0) = 2 then (if ((rd_T34 x3_1 (ji15)).f7).size + ((rd_T34 l0 x9_1).f7).size ≤ 9223372036854775807 then (impl_Merge.l0 kj4 (x3_1.set ((ji15) : Int).toNat (⟨(rd_T34 x3_1 (ji15)).f0, (rd_T34 x3_1 (ji15)).f1, (rd_T34 x3_1 (ji15)).f2, (rd_T34 x3_1 (ji15)).f3, (rd_T34 x3_1 (ji15)).f4, (rd_T34 x3_1 (ji15)).f5, (rd_T34 x3_1 (ji15)).f6, ((rd_T34 x3_1 (ji15)).f7) ++ ((rd_T34 l0 x9_1).f7)⟩ : S34)) l0 (l0.length : Int) (wrap64 (x9_1 + 1))) else (none)) else ((impl_cloneNode.f kj4 ((rd_T34 l0 x9_1).f0) ((rd_T34 l0 x9_1).f1) ((rd_T34 l0 x9_1).f2) ((rd_T34 l0 x9_1).f3) ((rd_T34 l0 x9_1).f4) ((rd_T34 l0 x9_1).f5) ((rd_T34 l0 x9_1).f6) ((rd_T34 l0 x9_1).f7)).bind fun bt238 => (if x3_1.length < 977343669134 then (impl_Merge.l0 kj4 (x3_1 ++ [(⟨bt238.1, bt238.2.1, bt238.2.2.1, bt238.2.2.2.1, bt238.2.2.2.2.1, bt238.2.2.2.2.2.1, bt238.2.2.2.2.2.2.1, bt238.2.2.2.2.2.2.2⟩ : S34)]) l0 (l0.length : Int) (wrap64 (x9_1 + 1))) else (none)))) else (none)) else (none)) = some r := by first | (rw [hji15] at H; exact H) | (simp only [hji15] at H ⊢; exact H)
         have hji15w : (IntKind.i64.wrap ((x3_1.length : Int) - 1)) = ji15 := (i64_w _).trans hji15
         obtain ⟨c16, H⟩ := if_som H
         have c16b0 : decide (0 ≤ (ji15)) = true := decide_eq_true c16
         clear c16
         obtain ⟨c17, H⟩ := if_som H
         have c17b0 : decide ((ji15) < (x3_1.length : Int)) = true := decide_eq_true c17
         clear c17
         by_cases c18 : ((rd_T34 x3_1 (ji15)).f0) = 2
         ·rw [if_pos c18] at H
          obtain ⟨c18b0, c18b1⟩ := eqT c18
          clear c18
          obtain ⟨c19, H⟩ := if_som H
          obtain ⟨c19b0, c19b1⟩ := fcT c19
          try have c19b2 : (9223372036854775807 < ((rd_T34 x3_1 (ji15)).f7).size + ((rd_T34 l0 x9_1).f7).size) = False := eq_false (Nat.not_lt.2 c19)
          obtain ⟨y237, hy237⟩ : ∃ y_ : List (S34), y_ = (x3_1.set ((ji15) : Int).toNat (⟨(rd_T34 x3_1 (ji15)).f0, (rd_T34 x3_1 (ji15)).f1, (rd_T34 x3_1 (ji15)).f2, (rd_T34 x3_1 (ji15)).f3, (rd_T34 x3_1 (ji15)).f4, (rd_T34 x3_1 (ji15)).f5, (rd_T34 x3_1 (ji15)).f6, ((rd_T34 x3_1 (ji15)).f7) ++ ((rd_T34 l0 x9_1).f7)⟩ : S34)) := ⟨_, rfl⟩
          replace H : (impl_Merge.l0 kj4 y237 l0 (l0.length : Int) (wrap64 (x9_1 + 1))) = some r := by first | (rw [hy237]; with_reducible exact H) | (have H2_ := (Option.bind_some _ _).symm.trans H; rw [hy237]; with_reducible exact H2_) | (have H2_ := (Option.bind_some _ _).symm.trans H; with_reducible exact H2_) | with_reducible exact H | (rw [hy237]; exact H) | exact H
          have Ny237 := Aside0.mk hy237
          clear hy237
          have H' := Aside0.mk H
          clear H
          obtain ⟨hcz21_0, hcz21_1, hcz21_2, hcz21_3, hcz21_4, hcz21_5, hcz21_6, hcz21_7⟩ := bc8 BK234.out
          obtain ⟨hfz21_0, hfz21_1, hfz21_2, hfz21_3, hfz21_4, hfz21_5, hfz21_6, hfz21_7⟩ := bf8 BK234.out
          have p235 : 0 ≤ ((ji15) : Int) := odt
          have q235 : (ji15) < (x3_1.length : Int) := odt
          obtain ⟨ad235, A235_4, c235_4, A235_5, c235_5, A235_6, c235_6, e235, hx235_0, hx235_1, hx235_2, hx235_3, hx235_4, hx235_5, hx235_6, hx235_7, hl235_4, hi235_4, hl235_5, hi235_5, hl235_6, hi235_6⟩ := at_T34 (Kd.R_reads' HO_3.out).2.2 (ji15) p235 q235
          cases e235
          obtain ⟨ce235, hce235, hMe235, hcc235⟩ := Kd.R_get HO_3.out z34 (ji15) p235 (by first | exact q235 | exact odt | (have e_ := (Kd.R_reads' HO_3.out).1; omega))
          obtain ⟨ve235_4, ve235_5, ve235_6, rfl, ge235_4, ge235_5, ge235_6⟩ := k34_openM hMe235
          have hv235_4 := hcc235 4 _ rfl
          rw [add_field _ _ 4 (by omega)] at hv235_4
          replace hv235_4 := Option.some.inj (hv235_4.symm.trans hx235_4)
          rw [hv235_4] at ge235_4
          have HL235_4 := Aside0.mk (show Kd.R k88 88 _ _ _ _ ((rd_T34 x3_1 (ji15)).f4) from ge235_4)
          clear hv235_4 ge235_4
          have hv235_5 := hcc235 5 _ rfl
          rw [add_field _ _ 5 (by omega)] at hv235_5
          replace hv235_5 := Option.some.inj (hv235_5.symm.trans hx235_5)
          rw [hv235_5] at ge235_5
          have HL235_5 := Aside0.mk (show Kd.R k90 90 _ _ _ _ ((rd_T34 x3_1 (ji15)).f5) from ge235_5)
          clear hv235_5 ge235_5
          have hv235_6 := hcc235 6 _ rfl
          rw [add_field _ _ 6 (by omega)] at hv235_6
          replace hv235_6 := Option.some.inj (hv235_6.symm.trans hx235_6)
          rw [hv235_6] at ge235_6
          have HL235_6 := Aside0.mk (show Kd.R k34 34 _ _ _ _ ((rd_T34 x3_1 (ji15)).f6) from ge235_6)
          clear hv235_6 ge235_6
          clear hcc235 hce235
          have HR235_4 := Aside0.mk hi235_4
          have HC235_4 := Aside0.mk hl235_4
          clear hi235_4 hl235_4
          have HR235_5 := Aside0.mk hi235_5
          have HC235_5 := Aside0.mk hl235_5
          clear hi235_5 hl235_5
          have HR235_6 := Aside0.mk hi235_6
          have HC235_6 := Aside0.mk hl235_6
          clear hi235_6 hl235_6
          replace p235 := eq_true p235
          replace q235 := eq_true q235
          try go_wp2
          replace HO_3 := Aside0.mk (Kd.R_drew HO_3.out)
          replace HL235_4 := Aside0.mk (Kd.R_drew HL235_4.out)
          replace HL235_5 := Aside0.mk (Kd.R_drew HL235_5.out)
          replace HL235_6 := Aside0.mk (Kd.R_drew HL235_6.out)
          replace BK234 := Aside0.mk (blk_drew BK234.out)
          replace HR235_4 := Aside0.mk (Kd.C_drew HR235_4.out)
          replace HR235_5 := Aside0.mk (Kd.C_drew HR235_5.out)
          replace HR235_6 := Aside0.mk (Kd.C_drew HR235_6.out)
          replace HB := Aside0.mk (below_drew1 HB.out)
          have p236 : 0 ≤ ((ji15) : Int) := odt
          have q236 : (ji15) < (x3_1.length : Int) := odt
          obtain ⟨ad236, A236_4, c236_4, A236_5, c236_5, A236_6, c236_6, e236, hx236_0, hx236_1, hx236_2, hx236_3, hx236_4, hx236_5, hx236_6, hx236_7, hl236_4, hi236_4, hl236_5, hi236_5, hl236_6, hi236_6⟩ := at_T34 (Kd.R_reads' HO_3.out).2.2 (ji15) p236 q236
          obtain rfl : ad235 = ad236 := (by injection e236)
          obtain ⟨ce236, hce236, hMe236, hcc236⟩ := Kd.R_get HO_3.out z34 (ji15) p236 (by first | exact q236 | exact odt | (have e_ := (Kd.R_reads' HO_3.out).1; omega))
          obtain ⟨ve236_4, ve236_5, ve236_6, rfl, ge236_4, ge236_5, ge236_6⟩ := k34_openM hMe236
          have hv236_4 := hcc236 4 _ rfl
          rw [add_field _ _ 4 (by omega)] at hv236_4
          replace hv236_4 := Option.some.inj (hv236_4.symm.trans hx236_4)
          rw [hv236_4] at ge236_4
          have HL236_4 := Aside0.mk (show Kd.R k88 88 _ _ _ _ ((rd_T34 x3_1 (ji15)).f4) from ge236_4)
          clear hv236_4 ge236_4
          have hv236_5 := hcc236 5 _ rfl
          rw [add_field _ _ 5 (by omega)] at hv236_5
          replace hv236_5 := Option.some.inj (hv236_5.symm.trans hx236_5)
          rw [hv236_5] at ge236_5
          have HL236_5 := Aside0.mk (show Kd.R k90 90 _ _ _ _ ((rd_T34 x3_1 (ji15)).f5) from ge236_5)
          clear hv236_5 ge236_5
          have hv236_6 := hcc236 6 _ rfl
          rw [add_field _ _ 6 (by omega)] at hv236_6
          replace hv236_6 := Option.some.inj (hv236_6.symm.trans hx236_6)
          rw [hv236_6] at ge236_6
          have HL236_6 := Aside0.mk (show Kd.R k34 34 _ _ _ _ ((rd_T34 x3_1 (ji15)).f6) from ge236_6)
          clear hv236_6 ge236_6
          clear hcc236 hce236
          have HR236_4 := Aside0.mk hi236_4
          have HC236_4 := Aside0.mk hl236_4
          clear hi236_4 hl236_4
          have HR236_5 := Aside0.mk hi236_5
          have HC236_5 := Aside0.mk hl236_5
          clear hi236_5 hl236_5
          have HR236_6 := Aside0.mk hi236_6
          have HC236_6 := Aside0.mk hl236_6
          clear hi236_6 hl236_6
          replace p236 := eq_true p236
          replace q236 := eq_true q236
          have p20 : 0 ≤ ((ji15) : Int) := odt
          have q20 : ((ji15) : Int) < ((x3_1.length : Int) : Int) := odt
          obtain ⟨go20, co20, eo20, gb20, gl20, cl20, HG20⟩ := Kd.R_form HO_3.out (by omega)
          (first | cases eo20 | (injection eo20 with ea_ en_ ec_; (first | subst ea_ | (injection ea_ with ea_; subst ea_)); subst ec_; clear en_))
          have GB20 := Aside0.mk gb20
          have GG20 := Aside0.mk HG20
          clear gb20 gl20 HG20
          (first | simp only [add_plain] at hx235_0 | skip)
          (first | simp only [add_plain] at hx235_1 | skip)
          (first | simp only [add_plain] at hx235_2 | skip)
          (first | simp only [add_plain] at hx235_3 | skip)
          (first | simp only [add_plain] at hx235_4 | skip)
          (first | simp only [add_plain] at hx235_5 | skip)
          (first | simp only [add_plain] at hx235_6 | skip)
          (first | simp only [add_plain] at hx235_7 | skip)
          (first | simp only [add_plain] at hx236_0 | skip)
          (first | simp only [add_plain] at hx236_1 | skip)
          (first | simp only [add_plain] at hx236_2 | skip)
          (first | simp only [add_plain] at hx236_3 | skip)
          (first | simp only [add_plain] at hx236_4 | skip)
          (first | simp only [add_plain] at hx236_5 | skip)
          (first | simp only [add_plain] at hx236_6 | skip)
          (first | simp only [add_plain] at hx236_7 | skip)
          obtain ⟨ce20, hcl20, hM20, hcc20, hfr20⟩ := Kd.R_elem HO_3.out z34 ((ji15) : Int) p20 q20
          obtain ⟨ve20_4, ve20_5, ve20_6, rfl, ge20_4, ge20_5, ge20_6⟩ := k34_openM hM20
          have hx20_0 : World.cell? _ ⟨go20, ((ji15) : Int).toNat * 8, none⟩ = some (.int .i64 ((rd_T34 x3_1 (ji15)).f0)) := hcc20 0 _ rfl
          have hx20_1 : World.cell? _ ⟨go20, ((ji15) : Int).toNat * 8 + 1, none⟩ = some (.string ((rd_T34 x3_1 (ji15)).f1)) := hcc20 1 _ rfl
          have hx20_2 : World.cell? _ ⟨go20, ((ji15) : Int).toNat * 8 + 2, none⟩ = some (.string ((rd_T34 x3_1 (ji15)).f2)) := hcc20 2 _ rfl
          have hx20_3 : World.cell? _ ⟨go20, ((ji15) : Int).toNat * 8 + 3, none⟩ = some (.string ((rd_T34 x3_1 (ji15)).f3)) := hcc20 3 _ rfl
          have hx20_4 : World.cell? _ ⟨go20, ((ji15) : Int).toNat * 8 + 4, none⟩ = some (ve20_4) := hcc20 4 _ rfl
          have hx20_5 : World.cell? _ ⟨go20, ((ji15) : Int).toNat * 8 + 5, none⟩ = some (ve20_5) := hcc20 5 _ rfl
          have hx20_6 : World.cell? _ ⟨go20, ((ji15) : Int).toNat * 8 + 6, none⟩ = some (ve20_6) := hcc20 6 _ rfl
          have hx20_7 : World.cell? _ ⟨go20, ((ji15) : Int).toNat * 8 + 7, none⟩ = some (.string ((rd_T34 x3_1 (ji15)).f7)) := hcc20 7 _ rfl
          have hf20_0 : World.frozen? _ ⟨go20, ((ji15) : Int).toNat * 8, none⟩ = false := hfr20 0
          have hf20_1 : World.frozen? _ ⟨go20, ((ji15) : Int).toNat * 8 + 1, none⟩ = false := hfr20 1
          have hf20_2 : World.frozen? _ ⟨go20, ((ji15) : Int).toNat * 8 + 2, none⟩ = false := hfr20 2
          have hf20_3 : World.frozen? _ ⟨go20, ((ji15) : Int).toNat * 8 + 3, none⟩ = false := hfr20 3
          have hf20_4 : World.frozen? _ ⟨go20, ((ji15) : Int).toNat * 8 + 4, none⟩ = false := hfr20 4
          have hf20_5 : World.frozen? _ ⟨go20, ((ji15) : Int).toNat * 8 + 5, none⟩ = false := hfr20 5
          have hf20_6 : World.frozen? _ ⟨go20, ((ji15) : Int).toNat * 8 + 6, none⟩ = false := hfr20 6
          have hf20_7 : World.frozen? _ ⟨go20, ((ji15) : Int).toNat * 8 + 7, none⟩ = false := hfr20 7
          clear hcl20 hcc20 hfr20 hM20
          replace p20 := eq_true p20
          replace q20 := eq_true q20
          obtain ⟨ce23, hcl23, hM23, hcc23, hfr23⟩ := Kd.R_elem HO_3.out z34 ((ji15) : Int) (odt) (by have h_ : ((ji15) : Int) < ((x3_1.length : Int) : Int) := odt; first | exact h_ | (have e_ := (Kd.R_reads' HO_3.out).1; omega) | simpa using h_)
          obtain ⟨ve23_4, ve23_5, ve23_6, rfl, ge23_4, ge23_5, ge23_6⟩ := k34_openM hM23
          have HP23 := (Kd.R_seg HO_3.out ((ji15) : Int) (odt) (by have h_ : ((ji15) : Int) < ((x3_1.length : Int) : Int) := odt; first | exact h_ | (have e_ := (Kd.R_reads' HO_3.out).1; omega) | simpa using h_) (seg := [.string (((rd_T34 x3_1 (ji15)).f7) ++ ((rd_T34 l0 x9_1).f7))]) (j := 7) hcl23 hcc23 (show 8 ≤ 8 from by decide) (x' := (⟨(rd_T34 x3_1 (ji15)).f0, (rd_T34 x3_1 (ji15)).f1, (rd_T34 x3_1 (ji15)).f2, (rd_T34 x3_1 (ji15)).f3, (rd_T34 x3_1 (ji15)).f4, (rd_T34 x3_1 (ji15)).f5, (rd_T34 x3_1 (ji15)).f6, ((rd_T34 x3_1 (ji15)).f7) ++ ((rd_T34 l0 x9_1).f7)⟩ : S34)) (k34_mkM _ _ _ (⟨(rd_T34 x3_1 (ji15)).f0, (rd_T34 x3_1 (ji15)).f1, (rd_T34 x3_1 (ji15)).f2, (rd_T34 x3_1 (ji15)).f3, (rd_T34 x3_1 (ji15)).f4, (rd_T34 x3_1 (ji15)).f5, (rd_T34 x3_1 (ji15)).f6, ((rd_T34 x3_1 (ji15)).f7) ++ ((rd_T34 l0 x9_1).f7)⟩ : S34) ge23_4 ge23_5 ge23_6) (fun _ hk => hk)).1
          rw [← Ny237.out] at HP23
          have HQ23 := Aside0.mk HP23
          clear hcl23 hcc23 hfr23 hM23 HP23
          refine start_ (n := 12) (S := fun w' => w'.cell? ⟨gb234, 0, none⟩ = some (.int .i64 ((rd_T34 l0 x9_1).f0)) ∧ w'.cell? ⟨gb234, 1, none⟩ = some (.string ((rd_T34 l0 x9_1).f1)) ∧ w'.cell? ⟨gb234, 2, none⟩ = some (.string ((rd_T34 l0 x9_1).f2)) ∧ w'.cell? ⟨gb234, 3, none⟩ = some (.string ((rd_T34 l0 x9_1).f3)) ∧ w'.cell? ⟨gb234, 4, none⟩ = some (.slice A233_4 ((rd_T34 l0 x9_1).f4).length c233_4) ∧ w'.cell? ⟨gb234, 5, none⟩ = some (.slice A233_5 ((rd_T34 l0 x9_1).f5).length c233_5) ∧ w'.cell? ⟨gb234, 6, none⟩ = some (.slice A233_6 ((rd_T34 l0 x9_1).f6).length c233_6) ∧ w'.cell? ⟨gb234, 7, none⟩ = some (.string ((rd_T34 l0 x9_1).f7)) ∧ w'.cell? ⟨go20, ((ji15)).toNat * 8, none⟩ = some (.int .i64 ((rd_T34 x3_1 (ji15)).f0)) ∧ w'.cell? ⟨go20, ((ji15)).toNat * 8 + 1, none⟩ = some (.string ((rd_T34 x3_1 (ji15)).f1)) ∧ w'.cell? ⟨go20, ((ji15)).toNat * 8 + 2, none⟩ = some (.string ((rd_T34 x3_1 (ji15)).f2)) ∧ w'.cell? ⟨go20, ((ji15)).toNat * 8 + 3, none⟩ = some (.string ((rd_T34 x3_1 (ji15)).f3)) ∧ w'.cell? ⟨go20, ((ji15)).toNat * 8 + 4, none⟩ = some (.slice A236_4 ((rd_T34 x3_1 (ji15)).f4).length c236_4) ∧ w'.cell? ⟨go20, ((ji15)).toNat * 8 + 5, none⟩ = some (.slice A236_5 ((rd_T34 x3_1 (ji15)).f5).length c236_5) ∧ w'.cell? ⟨go20, ((ji15)).toNat * 8 + 6, none⟩ = some (.slice A236_6 ((rd_T34 x3_1 (ji15)).f6).length c236_6) ∧ w'.cell? ⟨go20, ((ji15)).toNat * 8 + 7, none⟩ = some (.string ((rd_T34 x3_1 (ji15)).f7))) (ds := [11]) #[false, false, false, false, false, false, false, false, false, false, false, false] (by kernel_rfl) rfl rfl ⟨(blk_cell BK234.out 0).trans rfl, (blk_cell BK234.out 1).trans rfl, (blk_cell BK234.out 2).trans rfl, (blk_cell BK234.out 3).trans rfl, (blk_cell BK234.out 4).trans rfl, (blk_cell BK234.out 5).trans rfl, (blk_cell BK234.out 6).trans rfl, (blk_cell BK234.out 7).trans rfl, hx236_0, hx236_1, hx236_2, hx236_3, hx236_4, hx236_5, hx236_6, hx236_7⟩ (fun hHeld => ?_); refine with_tabW impl_Merge.tab9 impl_Merge.bits9 (fun HT_ HW_ => ?_)
          generalize wc.drew = w22 at HO_3 HL235_4 HL235_5 HL235_6 BK234 HR235_4 HR235_5 HR235_6 HB GG20 HL236_4 HL236_5 HL236_6 HQ23 HR236_4 HR236_5 HR236_6 hf20_0 hf20_1 hf20_2 hf20_3 hf20_4 hf20_5 hf20_6 hf20_7 hx20_0 hx20_1 hx20_2 hx20_3 hx20_4 hx20_5 hx20_6 hx20_7 hx235_0 hx235_1 hx235_2 hx235_3 hx235_4 hx235_5 hx235_6 hx235_7 hx236_0 hx236_1 hx236_2 hx236_3 hx236_4 hx236_5 hx236_6 hx236_7 hHeld ⊢
          refine pU 0 46 (tf 1 11) ?_
          refine pU 1 47 (tf 2 10) ?_
          refine pU 2 48 (tf 3 9) ?_
          refine pU 3 49 (tf 4 8) ?_
          refine pU 4 50 (tf 5 7) ?_
          refine pU 6 52 #[true, true, true, true, true, false, true, false, false, false, false, false] ?_
          refine take_ (i := 5) (N := some 51) (v := ?_) (a' := ?_) (tf 7 5) rfl rfl (take_ofW HT_.out HW_.out (by kernel_rfl)) (fun _ _ _ h => h) (Or.inl ⟨by rfl, ?_⟩) hHeld ?_ ?_
          rotate_left
          ·rintro w' ⟨s0, s1, s2, s3, s4, s5, s6, s7, s8, s9, s10, s11, s12, s13, s14, s15⟩
           go_simp
           with_reducible rfl
          rotate_left
          ·simp only [Act.put, sT, sZ, sS, i64_w, i32_w]
           rfl
          refine take_ (i := 7) (N := some 53) (v := ?_) (a' := ?_) (tf 8 4) rfl rfl (take_ofW HT_.out HW_.out (by kernel_rfl)) (fun _ _ _ h => h) (Or.inl ⟨by rfl, ?_⟩) hHeld ?_ ?_
          rotate_left
          ·rintro w' ⟨s0, s1, s2, s3, s4, s5, s6, s7, s8, s9, s10, s11, s12, s13, s14, s15⟩
           go_simp
           with_reducible rfl
          rotate_left
          ·simp only [Act.put, sT, sZ, sS, i64_w, i32_w]
           rfl
          refine pU 8 54 (tf 9 3) ?_
          refine pU 9 55 (tf 10 2) ?_
          refine pU 10 56 (tf 11 1) ?_
          refine last_ (i := 11) (N := none) (tf 12 0) rfl rfl (one_of HT_.out (by kernel_rfl)) (by decide) (fun K hK => ?_)
          refine skip_ (w1 := ?_) (by rfl) rfl ?_ ?_
          rotate_left
          ·go_simp
           rfl
          refine hK.out _ _ ?_
          clear hK K
          refine done_ (done_of HT_.out (by kernel_rfl)) ?_
          try go_wp2
          go_roundg kj4
          case measure => have := HK1.out; have := HJ4.out; omega
          case rel => exact ⟨(y237), (wrap64 (x9_1 + 1)), rG, H', ⟨by have := HK1.out; have := HJ4.out; omega⟩, ⟨by (with_reducible repeat (first|apply rA|apply rN|apply rD)); exact Kd.R_mono HQ23.out (fun _ hk => trivial)⟩, ⟨by repeat (first|(with_reducible first|exact HB.out|apply zA|apply zN|apply zD | refine below_set ?_ GB20.out | refine below_set ?_ GE234.out) | exact HB.out)⟩⟩
         ·rw [if_neg c18] at H
          obtain ⟨c18b0, c18b1⟩ := eqF c18
          replace H := Option.bind_eq_some_iff.mp H
          obtain ⟨⟨t238, t239, t240, t241, t242, t245, t248, t251⟩, A240, H⟩ := H
          try dsimp only at H
          have A24 := Aside0.mk A240
          clear A240
          obtain ⟨c25, H⟩ := if_som H
          have LMc25 := Aside0.mk c25
          clear c25
          obtain ⟨y252, hy252⟩ : ∃ y_ : List (S34), y_ = (x3_1 ++ [(⟨t238, t239, t240, t241, t242, t245, t248, t251⟩ : S34)]) := ⟨_, rfl⟩
          replace H : (impl_Merge.l0 kj4 y252 l0 (l0.length : Int) (wrap64 (x9_1 + 1))) = some r := by first | (rw [hy252]; with_reducible exact H) | (have H2_ := (Option.bind_some _ _).symm.trans H; rw [hy252]; with_reducible exact H2_) | (have H2_ := (Option.bind_some _ _).symm.trans H; with_reducible exact H2_) | with_reducible exact H | (rw [hy252]; exact H) | exact H
          have Ny252 := Aside0.mk hy252
          clear hy252
          have H' := Aside0.mk H
          clear H
          obtain ⟨hcz26_0, hcz26_1, hcz26_2, hcz26_3, hcz26_4, hcz26_5, hcz26_6, hcz26_7⟩ := bc8 BK234.out
          obtain ⟨hfz26_0, hfz26_1, hfz26_2, hfz26_3, hfz26_4, hfz26_5, hfz26_6, hfz26_7⟩ := bf8 BK234.out
          have p235 : 0 ≤ ((ji15) : Int) := odt
          have q235 : (ji15) < (x3_1.length : Int) := odt
          obtain ⟨ad235, A235_4, c235_4, A235_5, c235_5, A235_6, c235_6, e235, hx235_0, hx235_1, hx235_2, hx235_3, hx235_4, hx235_5, hx235_6, hx235_7, hl235_4, hi235_4, hl235_5, hi235_5, hl235_6, hi235_6⟩ := at_T34 (Kd.R_reads' HO_3.out).2.2 (ji15) p235 q235
          cases e235
          obtain ⟨ce235, hce235, hMe235, hcc235⟩ := Kd.R_get HO_3.out z34 (ji15) p235 (by first | exact q235 | exact odt | (have e_ := (Kd.R_reads' HO_3.out).1; omega))
          obtain ⟨ve235_4, ve235_5, ve235_6, rfl, ge235_4, ge235_5, ge235_6⟩ := k34_openM hMe235
          have hv235_4 := hcc235 4 _ rfl
          rw [add_field _ _ 4 (by omega)] at hv235_4
          replace hv235_4 := Option.some.inj (hv235_4.symm.trans hx235_4)
          rw [hv235_4] at ge235_4
          have HL235_4 := Aside0.mk (show Kd.R k88 88 _ _ _ _ ((rd_T34 x3_1 (ji15)).f4) from ge235_4)
          clear hv235_4 ge235_4
          have hv235_5 := hcc235 5 _ rfl
          rw [add_field _ _ 5 (by omega)] at hv235_5
          replace hv235_5 := Option.some.inj (hv235_5.symm.trans hx235_5)
          rw [hv235_5] at ge235_5
          have HL235_5 := Aside0.mk (show Kd.R k90 90 _ _ _ _ ((rd_T34 x3_1 (ji15)).f5) from ge235_5)
          clear hv235_5 ge235_5
          have hv235_6 := hcc235 6 _ rfl
          rw [add_field _ _ 6 (by omega)] at hv235_6
          replace hv235_6 := Option.some.inj (hv235_6.symm.trans hx235_6)
          rw [hv235_6] at ge235_6
          have HL235_6 := Aside0.mk (show Kd.R k34 34 _ _ _ _ ((rd_T34 x3_1 (ji15)).f6) from ge235_6)
          clear hv235_6 ge235_6
          clear hcc235 hce235
          have HR235_4 := Aside0.mk hi235_4
          have HC235_4 := Aside0.mk hl235_4
          clear hi235_4 hl235_4
          have HR235_5 := Aside0.mk hi235_5
          have HC235_5 := Aside0.mk hl235_5
          clear hi235_5 hl235_5
          have HR235_6 := Aside0.mk hi235_6
          have HC235_6 := Aside0.mk hl235_6
          clear hi235_6 hl235_6
          replace p235 := eq_true p235
          replace q235 := eq_true q235
          go_wp2_with (first | ((with_reducible refine gate_callee (f := 47) rfl ?_); refine goesL_ (some 17) rfl rfl Try.func47 (by kernel_rfl) rfl #[.agg #[.int .i64 ((rd_T34 l0 x9_1).f0), .string ((rd_T34 l0 x9_1).f1), .string ((rd_T34 l0 x9_1).f2), .string ((rd_T34 l0 x9_1).f3), .slice A233_4 ((rd_T34 l0 x9_1).f4).length c233_4, .slice A233_5 ((rd_T34 l0 x9_1).f5).length c233_5, .slice A233_6 ((rd_T34 l0 x9_1).f6).length c233_6, .string ((rd_T34 l0 x9_1).f7)]] rfl mA ?_; (with_reducible refine (impl_cloneNode.calls kj4 ((rd_T34 l0 x9_1).f0) ((rd_T34 l0 x9_1).f1) ((rd_T34 l0 x9_1).f2) ((rd_T34 l0 x9_1).f3) _ _ ((rd_T34 l0 x9_1).f4) _ _ ((rd_T34 l0 x9_1).f5) _ _ ((rd_T34 l0 x9_1).f6) ((rd_T34 l0 x9_1).f7) t238 t239 t240 t241 t242 t245 t248 t251 _ ?side1 ?side2 ?side3 ?side4 ?side5 ?side6 A24.out).mono ?_); (case side1 => repeat (first | exact (Kd.C_below HR233_4.out HB.out) | (with_reducible refine Kd.C_alloc ?_ _) | (with_reducible refine Kd.C_drewN ?_ _) | (with_reducible refine Kd.C_drew ?_))); (case side2 => exact HC233_4.out); (case side3 => repeat (first | exact (Kd.C_below HR233_5.out HB.out) | (with_reducible refine Kd.C_alloc ?_ _) | (with_reducible refine Kd.C_drewN ?_ _) | (with_reducible refine Kd.C_drew ?_))); (case side4 => exact HC233_5.out); (case side5 => repeat (first | exact (Kd.C_below HR233_6.out HB.out) | (with_reducible refine Kd.C_alloc ?_ _) | (with_reducible refine Kd.C_drewN ?_ _) | (with_reducible refine Kd.C_drew ?_))); (case side6 => exact HC233_6.out); rintro e w27 ⟨v243, v246, v249, rfl, ho0, ho1, ho2, hb⟩; refine ⟨_, rfl, ?_⟩; have HO244 := Aside0.mk (Kd.R_lower (Kd.R_new' ho0 (Kd.R_lt (by (with_reducible repeat (first|apply rA|apply rN|apply rD)); exact HL235_4.out))) (below_size hB)); have HO247 := Aside0.mk (Kd.R_lower (Kd.R_new' ho1 (Kd.R_lt (by (with_reducible repeat (first|apply rA|apply rN|apply rD)); exact HL235_5.out))) (below_size hB)); have HO250 := Aside0.mk (Kd.R_lower (Kd.R_newB (Kd.R_new' (Kd.R_new' (Kd.R_new' (Kd.R_new' ho2 (Kd.R_lt (by (with_reducible repeat (first|apply rA|apply rN|apply rD)); exact HO_3.out))) (Kd.R_lt (by (with_reducible repeat (first|apply rA|apply rN|apply rD)); exact HL235_4.out))) (Kd.R_lt (by (with_reducible repeat (first|apply rA|apply rN|apply rD)); exact HL235_5.out))) (Kd.R_lt (by (with_reducible repeat (first|apply rA|apply rN|apply rD)); exact HL235_6.out))) (g := gb234) (by (with_reducible repeat (first | refine bN ?_ _|refine bD ?_|refine bA ?_ _)); exact BK234.out)) (below_size hB)); replace HO_3 := Aside0.mk (Kd.R_mono (Kd.R_told (Kd.R_told (Kd.R_told (Kd.R_old (by (with_reducible repeat (first|apply rA|apply rN|apply rD)); exact HO_3.out) hb) (Kd.R_base ho0)) (Kd.R_base ho1)) (Kd.R_base ho2)) (fun _ h_ => h_.1)); replace HL235_4 := Aside0.mk (Kd.R_elder' (by (with_reducible repeat (first|apply rA|apply rN|apply rD)); exact HL235_4.out) (Kd.R_base ho0) hb); replace HL235_5 := Aside0.mk (Kd.R_elder' (by (with_reducible repeat (first|apply rA|apply rN|apply rD)); exact HL235_5.out) (Kd.R_base ho1) hb); replace HL235_6 := Aside0.mk (Kd.R_mono (Kd.R_told (Kd.R_told (Kd.R_told (Kd.R_old (by (with_reducible repeat (first|apply rA|apply rN|apply rD)); exact HL235_6.out) hb) (Kd.R_base ho0)) (Kd.R_base ho1)) (Kd.R_base ho2)) (fun _ h_ => h_.1)); replace BK234 := Aside0.mk (blk_below (g := gb234) (by (with_reducible repeat (first | refine bN ?_ _|refine bD ?_|refine bA ?_ _)); exact BK234.out) hb); replace HR235_4 := Aside0.mk (Kd.C_below (by repeat (first | (with_reducible exact HR235_4.out) | (with_reducible refine Kd.C_alloc ?_ _) | (with_reducible refine Kd.C_drewN ?_ _) | (with_reducible refine Kd.C_drew ?_) | exact HR235_4.out)) hb); replace HR235_5 := Aside0.mk (Kd.C_below (by repeat (first | (with_reducible exact HR235_5.out) | (with_reducible refine Kd.C_alloc ?_ _) | (with_reducible refine Kd.C_drewN ?_ _) | (with_reducible refine Kd.C_drew ?_) | exact HR235_5.out)) hb); replace HR235_6 := Aside0.mk (Kd.C_below (by repeat (first | (with_reducible exact HR235_6.out) | (with_reducible refine Kd.C_alloc ?_ _) | (with_reducible refine Kd.C_drewN ?_ _) | (with_reducible refine Kd.C_drew ?_) | exact HR235_6.out)) hb); replace HB := Aside0.mk (below_step hB hb); (try clear hb); (try clear hb2); (try clear hk); (try clear hi); (try clear ho0); (try clear ho1); (try clear ho2); obtain ⟨Ao29, co29, eo29⟩ := Kd.R_slice HO244.out; subst eo29; obtain ⟨Ao30, co30, eo30⟩ := Kd.R_slice HO247.out; subst eo30; obtain ⟨Ao31, co31, eo31⟩ := Kd.R_slice HO250.out; subst eo31) | ((with_reducible refine gate_builtin (b := .append) (xs := #[.tmp 15, .tmp 18]) rfl ?_); at_builtin; refine Kd.R_append k34 (w0 := w) w.heap.size rfl (.tmp 15) (.tmp 18) 32 34 (.agg #[(.int .i64 0), (.string ⟨#[]⟩), (.string ⟨#[]⟩), (.string ⟨#[]⟩), (.slice none 0 0), (.slice none 0 0), (.slice none 0 0), (.string ⟨#[]⟩)]) 144 rfl Try.underlying32 info34 rfl (by decide) (by omega) (.slice (some ad235) x3_1.length co8) x3_1 (⟨t238, t239, t240, t241, t242, t245, t248, t251⟩ : S34) [.int .i64 t238, .string t239, .string t240, .string t241, .slice Ao29 t242.length co29, .slice Ao30 t245.length co30, .slice Ao31 t248.length co31, .string t251] (fun k_ => k_ ≠ gb234) (fun k_ => ((fun k_ => k_ ≠ gb234)) k_ ∧ some k_ ≠ (.slice (some ad235) x3_1.length co8 : Value).ownBlock) rfl rfl ?aP (fun _ hk => hk) ?aF ?aO ?aB ?aS ?aL ?_; (case aP => exact k34_mkM _ _ _ (⟨t238, t239, t240, t241, t242, t245, t248, t251⟩ : S34) (Kd.R_mono (Kd.R_types (Kd.R_apart' (HO244.out) (Kd.R_typed HO_3.out) (by decide)) BK234.out (by decide)) (fun k_ hk => ⟨hk.2, hk.1.2⟩)) (Kd.R_mono (Kd.R_types (Kd.R_apart' (HO247.out) (Kd.R_typed HO_3.out) (by decide)) BK234.out (by decide)) (fun k_ hk => ⟨hk.2, hk.1.2⟩)) (Kd.R_mono (HO250.out) (fun k_ hk => ⟨hk.2, hk.1.1.1.1.2⟩))); (case aB => exact hB); (case aF => exact (fun k_ hk => Kd.freshB (g := gb234) (by (with_reducible repeat (first | refine bN ?_ _|refine bD ?_|refine bA ?_ _)); exact BK234.out) k_ hk)); (case aO => exact (by (with_reducible repeat (first|apply rA|apply rN|apply rD)); exact Kd.R_mono HO_3.out (fun _ hk => hk.1.1.1))); (case aS => exact (below_size hB)); (case aL => have := LMc25.out; omega); intro v253 w28 ho hb hg hat; rw [← Ny252.out] at ho; replace BK234 := Aside0.mk (blk_grown (g := gb234) (by (with_reducible repeat (first | refine bN ?_ _|refine bD ?_|refine bA ?_ _)); exact BK234.out) hg (Kd.R_away HO_3.out (fun _ hk => hk.1.1.1))); replace HL235_4 := Aside0.mk (Kd.R_after (ok := (fun k_ => some k_ ≠ (.slice Ao29 t242.length co29 : Value).ownBlock ∧ k_ ≠ gb234)) (by (with_reducible repeat (first|apply rA|apply rN|apply rD)); exact Kd.R_mono HL235_4.out (fun _ hk => ⟨⟨hk.2, hk.1.1⟩, hk.1.2⟩)) hg hat); replace HL235_5 := Aside0.mk (Kd.R_after (ok := (fun k_ => some k_ ≠ (.slice Ao30 t245.length co30 : Value).ownBlock ∧ k_ ≠ gb234)) (by (with_reducible repeat (first|apply rA|apply rN|apply rD)); exact Kd.R_mono HL235_5.out (fun _ hk => ⟨⟨hk.2, hk.1.1⟩, hk.1.2⟩)) hg hat); replace HL235_6 := Aside0.mk (Kd.R_after (ok := (fun k_ => some k_ ≠ (.slice Ao29 t242.length co29 : Value).ownBlock ∧ some k_ ≠ (.slice Ao30 t245.length co30 : Value).ownBlock ∧ some k_ ≠ (.slice Ao31 t248.length co31 : Value).ownBlock ∧ k_ ≠ gb234)) (by (with_reducible repeat (first|apply rA|apply rN|apply rD)); exact Kd.R_mono HL235_6.out (fun _ hk => ⟨⟨hk.1.1.2, ⟨hk.1.2, ⟨hk.2, hk.1.1.1.1⟩⟩⟩, hk.1.1.1.2⟩)) hg hat); replace HB := Aside0.mk (hb); have HO254 := Aside0.mk (ho); clear HO_3; clear HO244; clear HO247; clear HO250; clear ho hb hg hat))
          go_roundg kj4
          case measure => have := HK1.out; have := HJ4.out; omega
          case rel => exact ⟨(y252), (wrap64 (x9_1 + 1)), rG, H', ⟨by have := HK1.out; have := HJ4.out; omega⟩, ⟨by (with_reducible repeat (first|apply rA|apply rN|apply rD)); exact Kd.R_mono HO254.out (fun _ hk => trivial)⟩, ⟨hB⟩⟩
        ·rw [if_neg c14] at H
         have c14b0 : decide (0 < (x3_1.length : Int)) = false := decide_eq_false c14
         have c14b1 : decide (0 < x3_1.length) = false := decide_eq_false (by omega)
         clear c14
         replace H := Option.bind_eq_some_iff.mp H
         obtain ⟨⟨t255, t256, t257, t258, t259, t262, t265, t268⟩, A320, H⟩ := H
         try dsimp only at H
         have A32 := Aside0.mk A320
         clear A320
         obtain ⟨c33, H⟩ := if_som H
         have LMc33 := Aside0.mk c33
         clear c33
         obtain ⟨y269, hy269⟩ : ∃ y_ : List (S34), y_ = (x3_1 ++ [(⟨t255, t256, t257, t258, t259, t262, t265, t268⟩ : S34)]) := ⟨_, rfl⟩
         replace H : (impl_Merge.l0 kj4 y269 l0 (l0.length : Int) (wrap64 (x9_1 + 1))) = some r := by first | (rw [hy269]; with_reducible exact H) | (have H2_ := (Option.bind_some _ _).symm.trans H; rw [hy269]; with_reducible exact H2_) | (have H2_ := (Option.bind_some _ _).symm.trans H; with_reducible exact H2_) | with_reducible exact H | (rw [hy269]; exact H) | exact H
         have Ny269 := Aside0.mk hy269
         clear hy269
         have H' := Aside0.mk H
         clear H
         obtain ⟨hcz34_0, hcz34_1, hcz34_2, hcz34_3, hcz34_4, hcz34_5, hcz34_6, hcz34_7⟩ := bc8 BK234.out
         obtain ⟨hfz34_0, hfz34_1, hfz34_2, hfz34_3, hfz34_4, hfz34_5, hfz34_6, hfz34_7⟩ := bf8 BK234.out
         go_wp2_with (first | ((with_reducible refine gate_callee (f := 47) rfl ?_); refine goesL_ (some 17) rfl rfl Try.func47 (by kernel_rfl) rfl #[.agg #[.int .i64 ((rd_T34 l0 x9_1).f0), .string ((rd_T34 l0 x9_1).f1), .string ((rd_T34 l0 x9_1).f2), .string ((rd_T34 l0 x9_1).f3), .slice A233_4 ((rd_T34 l0 x9_1).f4).length c233_4, .slice A233_5 ((rd_T34 l0 x9_1).f5).length c233_5, .slice A233_6 ((rd_T34 l0 x9_1).f6).length c233_6, .string ((rd_T34 l0 x9_1).f7)]] rfl mA ?_; (with_reducible refine (impl_cloneNode.calls kj4 ((rd_T34 l0 x9_1).f0) ((rd_T34 l0 x9_1).f1) ((rd_T34 l0 x9_1).f2) ((rd_T34 l0 x9_1).f3) _ _ ((rd_T34 l0 x9_1).f4) _ _ ((rd_T34 l0 x9_1).f5) _ _ ((rd_T34 l0 x9_1).f6) ((rd_T34 l0 x9_1).f7) t255 t256 t257 t258 t259 t262 t265 t268 _ ?side1 ?side2 ?side3 ?side4 ?side5 ?side6 A32.out).mono ?_); (case side1 => repeat (first | exact (Kd.C_below HR233_4.out HB.out) | (with_reducible refine Kd.C_alloc ?_ _) | (with_reducible refine Kd.C_drewN ?_ _) | (with_reducible refine Kd.C_drew ?_))); (case side2 => exact HC233_4.out); (case side3 => repeat (first | exact (Kd.C_below HR233_5.out HB.out) | (with_reducible refine Kd.C_alloc ?_ _) | (with_reducible refine Kd.C_drewN ?_ _) | (with_reducible refine Kd.C_drew ?_))); (case side4 => exact HC233_5.out); (case side5 => repeat (first | exact (Kd.C_below HR233_6.out HB.out) | (with_reducible refine Kd.C_alloc ?_ _) | (with_reducible refine Kd.C_drewN ?_ _) | (with_reducible refine Kd.C_drew ?_))); (case side6 => exact HC233_6.out); rintro e w35 ⟨v260, v263, v266, rfl, ho0, ho1, ho2, hb⟩; refine ⟨_, rfl, ?_⟩; have HO261 := Aside0.mk (Kd.R_lower ho0 (below_size hB)); have HO264 := Aside0.mk (Kd.R_lower ho1 (below_size hB)); have HO267 := Aside0.mk (Kd.R_lower (Kd.R_newB (Kd.R_new' ho2 (Kd.R_lt (by (with_reducible repeat (first|apply rA|apply rN|apply rD)); exact HO_3.out))) (g := gb234) (by (with_reducible repeat (first | refine bN ?_ _|refine bD ?_|refine bA ?_ _)); exact BK234.out)) (below_size hB)); replace HO_3 := Aside0.mk (Kd.R_mono (Kd.R_told (Kd.R_told (Kd.R_told (Kd.R_old (by (with_reducible repeat (first|apply rA|apply rN|apply rD)); exact HO_3.out) hb) (Kd.R_base ho0)) (Kd.R_base ho1)) (Kd.R_base ho2)) (fun _ h_ => h_.1)); replace BK234 := Aside0.mk (blk_below (g := gb234) (by (with_reducible repeat (first | refine bN ?_ _|refine bD ?_|refine bA ?_ _)); exact BK234.out) hb); replace HB := Aside0.mk (below_step hB hb); (try clear hb); (try clear hb2); (try clear hk); (try clear hi); (try clear ho0); (try clear ho1); (try clear ho2); obtain ⟨Ao37, co37, eo37⟩ := Kd.R_slice HO261.out; subst eo37; obtain ⟨Ao38, co38, eo38⟩ := Kd.R_slice HO264.out; subst eo38; obtain ⟨Ao39, co39, eo39⟩ := Kd.R_slice HO267.out; subst eo39) | ((with_reducible refine gate_builtin (b := .append) (xs := #[.tmp 15, .tmp 18]) rfl ?_); at_builtin; refine Kd.R_append k34 (w0 := w) w.heap.size rfl (.tmp 15) (.tmp 18) 32 34 (.agg #[(.int .i64 0), (.string ⟨#[]⟩), (.string ⟨#[]⟩), (.string ⟨#[]⟩), (.slice none 0 0), (.slice none 0 0), (.slice none 0 0), (.string ⟨#[]⟩)]) 144 rfl Try.underlying32 info34 rfl (by decide) (by omega) (.slice Ao8 x3_1.length co8) x3_1 (⟨t255, t256, t257, t258, t259, t262, t265, t268⟩ : S34) [.int .i64 t255, .string t256, .string t257, .string t258, .slice Ao37 t259.length co37, .slice Ao38 t262.length co38, .slice Ao39 t265.length co39, .string t268] (fun k_ => k_ ≠ gb234) (fun k_ => ((fun k_ => k_ ≠ gb234)) k_ ∧ some k_ ≠ (.slice Ao8 x3_1.length co8 : Value).ownBlock) rfl rfl ?aP (fun _ hk => hk) ?aF ?aO ?aB ?aS ?aL ?_; (case aP => exact k34_mkM _ _ _ (⟨t255, t256, t257, t258, t259, t262, t265, t268⟩ : S34) (Kd.R_mono (Kd.R_types (Kd.R_apart' (HO261.out) (Kd.R_typed HO_3.out) (by decide)) BK234.out (by decide)) (fun k_ hk => ⟨hk.2, hk.1.2⟩)) (Kd.R_mono (Kd.R_types (Kd.R_apart' (HO264.out) (Kd.R_typed HO_3.out) (by decide)) BK234.out (by decide)) (fun k_ hk => ⟨hk.2, hk.1.2⟩)) (Kd.R_mono (HO267.out) (fun k_ hk => ⟨hk.2, hk.1.2⟩))); (case aB => exact hB); (case aF => exact (fun k_ hk => Kd.freshB (g := gb234) (by (with_reducible repeat (first | refine bN ?_ _|refine bD ?_|refine bA ?_ _)); exact BK234.out) k_ hk)); (case aO => exact (by (with_reducible repeat (first|apply rA|apply rN|apply rD)); exact Kd.R_mono HO_3.out (fun _ hk => hk.1.1.1))); (case aS => exact (below_size hB)); (case aL => have := LMc33.out; omega); intro v270 w36 ho hb hg hat; rw [← Ny269.out] at ho; replace BK234 := Aside0.mk (blk_grown (g := gb234) (by (with_reducible repeat (first | refine bN ?_ _|refine bD ?_|refine bA ?_ _)); exact BK234.out) hg (Kd.R_away HO_3.out (fun _ hk => hk.1.1.1))); replace HB := Aside0.mk (hb); have HO271 := Aside0.mk (ho); clear HO_3; clear HO261; clear HO264; clear HO267; clear ho hb hg hat))
         go_roundg kj4
         case measure => have := HK1.out; have := HJ4.out; omega
         case rel => exact ⟨(y269), (wrap64 (x9_1 + 1)), rG, H', ⟨by have := HK1.out; have := HJ4.out; omega⟩, ⟨by (with_reducible repeat (first|apply rA|apply rN|apply rD)); exact Kd.R_mono HO271.out (fun _ hk => trivial)⟩, ⟨hB⟩⟩
       ·rw [if_neg c13] at H
        obtain ⟨c13b0, c13b1⟩ := eqF c13
        replace H := Option.bind_eq_some_iff.mp H
        obtain ⟨⟨t272, t273, t274, t275, t276, t279, t282, t285⟩, A400, H⟩ := H
        try dsimp only at H
        have A40 := Aside0.mk A400
        clear A400
        obtain ⟨c41, H⟩ := if_som H
        have LMc41 := Aside0.mk c41
        clear c41
        obtain ⟨y286, hy286⟩ : ∃ y_ : List (S34), y_ = (x3_1 ++ [(⟨t272, t273, t274, t275, t276, t279, t282, t285⟩ : S34)]) := ⟨_, rfl⟩
        replace H : (impl_Merge.l0 kj4 y286 l0 (l0.length : Int) (wrap64 (x9_1 + 1))) = some r := by first | (rw [hy286]; with_reducible exact H) | (have H2_ := (Option.bind_some _ _).symm.trans H; rw [hy286]; with_reducible exact H2_) | (have H2_ := (Option.bind_some _ _).symm.trans H; with_reducible exact H2_) | with_reducible exact H | (rw [hy286]; exact H) | exact H
        have Ny286 := Aside0.mk hy286
        clear hy286
        have H' := Aside0.mk H
        clear H
        obtain ⟨hcz42_0, hcz42_1, hcz42_2, hcz42_3, hcz42_4, hcz42_5, hcz42_6, hcz42_7⟩ := bc8 BK234.out
        obtain ⟨hfz42_0, hfz42_1, hfz42_2, hfz42_3, hfz42_4, hfz42_5, hfz42_6, hfz42_7⟩ := bf8 BK234.out
        go_wp2_with (first | ((with_reducible refine gate_callee (f := 47) rfl ?_); refine goesL_ (some 17) rfl rfl Try.func47 (by kernel_rfl) rfl #[.agg #[.int .i64 ((rd_T34 l0 x9_1).f0), .string ((rd_T34 l0 x9_1).f1), .string ((rd_T34 l0 x9_1).f2), .string ((rd_T34 l0 x9_1).f3), .slice A233_4 ((rd_T34 l0 x9_1).f4).length c233_4, .slice A233_5 ((rd_T34 l0 x9_1).f5).length c233_5, .slice A233_6 ((rd_T34 l0 x9_1).f6).length c233_6, .string ((rd_T34 l0 x9_1).f7)]] rfl mA ?_; (with_reducible refine (impl_cloneNode.calls kj4 ((rd_T34 l0 x9_1).f0) ((rd_T34 l0 x9_1).f1) ((rd_T34 l0 x9_1).f2) ((rd_T34 l0 x9_1).f3) _ _ ((rd_T34 l0 x9_1).f4) _ _ ((rd_T34 l0 x9_1).f5) _ _ ((rd_T34 l0 x9_1).f6) ((rd_T34 l0 x9_1).f7) t272 t273 t274 t275 t276 t279 t282 t285 _ ?side1 ?side2 ?side3 ?side4 ?side5 ?side6 A40.out).mono ?_); (case side1 => repeat (first | exact (Kd.C_below HR233_4.out HB.out) | (with_reducible refine Kd.C_alloc ?_ _) | (with_reducible refine Kd.C_drewN ?_ _) | (with_reducible refine Kd.C_drew ?_))); (case side2 => exact HC233_4.out); (case side3 => repeat (first | exact (Kd.C_below HR233_5.out HB.out) | (with_reducible refine Kd.C_alloc ?_ _) | (with_reducible refine Kd.C_drewN ?_ _) | (with_reducible refine Kd.C_drew ?_))); (case side4 => exact HC233_5.out); (case side5 => repeat (first | exact (Kd.C_below HR233_6.out HB.out) | (with_reducible refine Kd.C_alloc ?_ _) | (with_reducible refine Kd.C_drewN ?_ _) | (with_reducible refine Kd.C_drew ?_))); (case side6 => exact HC233_6.out); rintro e w43 ⟨v277, v280, v283, rfl, ho0, ho1, ho2, hb⟩; refine ⟨_, rfl, ?_⟩; have HO278 := Aside0.mk (Kd.R_lower ho0 (below_size hB)); have HO281 := Aside0.mk (Kd.R_lower ho1 (below_size hB)); have HO284 := Aside0.mk (Kd.R_lower (Kd.R_newB (Kd.R_new' ho2 (Kd.R_lt (by (with_reducible repeat (first|apply rA|apply rN|apply rD)); exact HO_3.out))) (g := gb234) (by (with_reducible repeat (first | refine bN ?_ _|refine bD ?_|refine bA ?_ _)); exact BK234.out)) (below_size hB)); replace HO_3 := Aside0.mk (Kd.R_mono (Kd.R_told (Kd.R_told (Kd.R_told (Kd.R_old (by (with_reducible repeat (first|apply rA|apply rN|apply rD)); exact HO_3.out) hb) (Kd.R_base ho0)) (Kd.R_base ho1)) (Kd.R_base ho2)) (fun _ h_ => h_.1)); replace BK234 := Aside0.mk (blk_below (g := gb234) (by (with_reducible repeat (first | refine bN ?_ _|refine bD ?_|refine bA ?_ _)); exact BK234.out) hb); replace HB := Aside0.mk (below_step hB hb); (try clear hb); (try clear hb2); (try clear hk); (try clear hi); (try clear ho0); (try clear ho1); (try clear ho2); obtain ⟨Ao45, co45, eo45⟩ := Kd.R_slice HO278.out; subst eo45; obtain ⟨Ao46, co46, eo46⟩ := Kd.R_slice HO281.out; subst eo46; obtain ⟨Ao47, co47, eo47⟩ := Kd.R_slice HO284.out; subst eo47) | ((with_reducible refine gate_builtin (b := .append) (xs := #[.tmp 15, .tmp 18]) rfl ?_); at_builtin; refine Kd.R_append k34 (w0 := w) w.heap.size rfl (.tmp 15) (.tmp 18) 32 34 (.agg #[(.int .i64 0), (.string ⟨#[]⟩), (.string ⟨#[]⟩), (.string ⟨#[]⟩), (.slice none 0 0), (.slice none 0 0), (.slice none 0 0), (.string ⟨#[]⟩)]) 144 rfl Try.underlying32 info34 rfl (by decide) (by omega) (.slice Ao8 x3_1.length co8) x3_1 (⟨t272, t273, t274, t275, t276, t279, t282, t285⟩ : S34) [.int .i64 t272, .string t273, .string t274, .string t275, .slice Ao45 t276.length co45, .slice Ao46 t279.length co46, .slice Ao47 t282.length co47, .string t285] (fun k_ => k_ ≠ gb234) (fun k_ => ((fun k_ => k_ ≠ gb234)) k_ ∧ some k_ ≠ (.slice Ao8 x3_1.length co8 : Value).ownBlock) rfl rfl ?aP (fun _ hk => hk) ?aF ?aO ?aB ?aS ?aL ?_; (case aP => exact k34_mkM _ _ _ (⟨t272, t273, t274, t275, t276, t279, t282, t285⟩ : S34) (Kd.R_mono (Kd.R_types (Kd.R_apart' (HO278.out) (Kd.R_typed HO_3.out) (by decide)) BK234.out (by decide)) (fun k_ hk => ⟨hk.2, hk.1.2⟩)) (Kd.R_mono (Kd.R_types (Kd.R_apart' (HO281.out) (Kd.R_typed HO_3.out) (by decide)) BK234.out (by decide)) (fun k_ hk => ⟨hk.2, hk.1.2⟩)) (Kd.R_mono (HO284.out) (fun k_ hk => ⟨hk.2, hk.1.2⟩))); (case aB => exact hB); (case aF => exact (fun k_ hk => Kd.freshB (g := gb234) (by (with_reducible repeat (first | refine bN ?_ _|refine bD ?_|refine bA ?_ _)); exact BK234.out) k_ hk)); (case aO => exact (by (with_reducible repeat (first|apply rA|apply rN|apply rD)); exact Kd.R_mono HO_3.out (fun _ hk => hk.1.1.1))); (case aS => exact (below_size hB)); (case aL => have := LMc41.out; omega); intro v287 w44 ho hb hg hat; rw [← Ny286.out] at ho; replace BK234 := Aside0.mk (blk_grown (g := gb234) (by (with_reducible repeat (first | refine bN ?_ _|refine bD ?_|refine bA ?_ _)); exact BK234.out) hg (Kd.R_away HO_3.out (fun _ hk => hk.1.1.1))); replace HB := Aside0.mk (hb); have HO288 := Aside0.mk (ho); clear HO_3; clear HO278; clear HO281; clear HO284; clear ho hb hg hat))
        go_roundg kj4
        case measure => have := HK1.out; have := HJ4.out; omega
        case rel => exact ⟨(y286), (wrap64 (x9_1 + 1)), rG, H', ⟨by have := HK1.out; have := HJ4.out; omega⟩, ⟨by (with_reducible repeat (first|apply rA|apply rN|apply rD)); exact Kd.R_mono HO288.out (fun _ hk => trivial)⟩, ⟨hB⟩⟩
   ·rw [if_neg c2] at H
    have c2b0 : decide (x9_1 < (l0.length : Int)) = false := decide_eq_false c2
    clear c2
    obtain rfl := Option.some.inj H
    go_wp2
    go_ret
    exact ⟨_, rE, by (with_reducible repeat (first|apply rA|apply rN|apply rD)); exact HO_3.out, hB⟩

end Go.Proofs.Ytdbinpeglamnnaa.PM
