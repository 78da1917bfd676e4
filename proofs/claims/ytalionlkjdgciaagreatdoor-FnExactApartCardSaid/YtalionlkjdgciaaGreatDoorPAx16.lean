-- Written by the session's program hprint.py, over the kit's print program. Lean checks it.
import Derived.Test.YtalionlkjdgciaaGreatDoorPAx0
import Derived.Test.YtalionlkjdgciaaGreatDoorPAx13
import Derived.Test.YtalionlkjdgciaaGreatDoorPAx14
import Derived.Test.YtalionlkjdgciaaGreatDoorPAx15
namespace Go.Proofs.YtalionlkjdgciaaGreatDoor.PA
open Go.RowKit Go.Proofs.YtalionlkjdgciaaGreatDoorW.PrintWords Go.Proofs.YtalionlkjdgciaaGreatDoorW.PrintLast Go.Proofs.YtalionlkjdgciaaGreatDoorW.PrintMore
attribute [local go_sem] max2_int min2_int max_two min_two max_three min_three max_four min_four   -- for this text's walks alone
set_option linter.unusedVariables false
set_option linter.unusedSimpArgs false
set_option maxHeartbeats 8000000
set_option maxRecDepth 100000

/-! ### impl_attrsOk: function 83 -/
def impl_attrsOk.l0 : Nat → List (S68) → List (S68) → Int → Int → Option (Bool)
 | 0, _, _, _, _ => none
 | k + 1, x0, x5, x6, x7 => if x7 < x6 then (if 0 ≤ x7 then (if x7 < (x5.length : Int) then ((impl_attrOk.f k ((rd_T68 x5 x7).f0) ((rd_T68 x5 x7).f1) ((rd_T68 x5 x7).f2) ((rd_T68 x5 x7).f3)).bind fun t358 => (if t358 = true then (if x7 > 0 then (if 0 ≤ (wrap64 (x7 - 1)) then (if (wrap64 (x7 - 1)) < (x0.length : Int) then ((impl_compareAttrs.f ((rd_T68 x0 (wrap64 (x7 - 1))).f0) ((rd_T68 x0 (wrap64 (x7 - 1))).f1) ((rd_T68 x0 (wrap64 (x7 - 1))).f2) ((rd_T68 x0 (wrap64 (x7 - 1))).f3) ((rd_T68 x5 x7).f0) ((rd_T68 x5 x7).f1) ((rd_T68 x5 x7).f2) ((rd_T68 x5 x7).f3)).bind fun t360 => (if t360 ≥ 0 then (some false) else (impl_attrsOk.l0 k x0 x5 x6 (wrap64 (x7 + 1))))) else (none)) else (none)) else (impl_attrsOk.l0 k x0 x5 x6 (wrap64 (x7 + 1)))) else (some false))) else (none)) else (none)) else (some (decide ((x0.length : Int) ≤ 5)))
def impl_attrsOk.f (k : Nat) (l0 : List (S68)) : Option (Bool) := impl_attrsOk.l0 k l0 l0 (l0.length : Int) 0
theorem impl_attrsOk.mono_l : ∀ k, (∀ y0 y1 y2 y3, LeO (impl_attrsOk.l0 k y0 y1 y2 y3) (impl_attrsOk.l0 (k + 1) y0 y1 y2 y3))
 | 0 => fun _ _ _ _ r h => by simp [impl_attrsOk.l0] at h
 | k + 1 => by
  have ih0 := impl_attrsOk.mono_l k
  ·intro y0 y1 y2 y3
   unfold impl_attrsOk.l0
   repeat' first
   | (with_reducible exact ih0 _ _ _ _)
   | (with_reducible exact impl_attrOk.mono _ _ _ _ _)
   | (with_reducible exact LeO.refl _)
   | (with_reducible exact LeO.none _)
   | (with_reducible refine LeO.ite ?_ ?_)
   | (with_reducible refine LeO.bind ?_ (fun _ => ?_))
   | exact ih0 _ _ _ _
   | exact impl_attrOk.mono _ _ _ _ _
   | exact LeO.none _
   | refine LeO.ite ?_ ?_
   | refine LeO.bind ?_ (fun _ => ?_)
theorem impl_attrsOk.mono : ∀ a0 k, LeO (impl_attrsOk.f k a0) (impl_attrsOk.f (k + 1) a0) := by
 intro a0 k
 have ih0 := impl_attrsOk.mono_l k
 unfold impl_attrsOk.f
 repeat' first
   | (with_reducible exact ih0 _ _ _ _)
   | (with_reducible exact impl_attrOk.mono _ _ _ _ _)
   | (with_reducible exact LeO.refl _)
   | (with_reducible exact LeO.none _)
   | (with_reducible refine LeO.ite ?_ ?_)
   | (with_reducible refine LeO.bind ?_ (fun _ => ?_))
   | exact ih0 _ _ _ _
   | exact impl_attrOk.mono _ _ _ _ _
   | exact LeO.none _
   | refine LeO.ite ?_ ?_
   | refine LeO.bind ?_ (fun _ => ?_)
def impl_attrsOk.T4 : Bool × List (List Nat × List Nat) := (true, [([], []), ([0], [0]), ([1], [1]), ([2, 1], [2]), ([3], [3]), ([4, 3], [3, 4]), ([5, 3, 3], [3, 5]), ([6], [6]), ([6], [6]), ([8, 6], [6, 8]), ([7, 9, 6], [6, 7, 9]), ([10, 6], [6, 10]), ([6], [6]), ([11, 12, 6, 6], [6, 11, 12]), ([13, 6], [6, 13]), ([6, 14, 3], [3, 6, 14]), ([3, 15], [3, 15])])
def impl_attrsOk.B4 : List Nat := [0, 1, 3, 7, 15, 31, 63, 127, 127, 383, 1023, 2047, 127, 8191, 16383, 32767, 65535]
theorem impl_attrsOk.tab4 : rtab .any (opsOf Tryz.f83 4) = impl_attrsOk.T4 := by kernel_rfl
theorem impl_attrsOk.bits4 : waitsOk impl_attrsOk.T4.2 impl_attrsOk.B4 = true := by kernel_rfl
theorem impl_attrsOk.calls (k : Nat) (A0 : Option Addr) (c0 : Nat) (l0 : List (S68)) (r : Bool) (w : World) (hr0 : Kd.C k68 w A0 l0.length l0) (hc0 : l0.length ≤ c0) (hTab : Tabs w) (h : impl_attrsOk.f k l0 = some r) :
  Calls Tryz.prog 83 #[.slice A0 l0.length c0] w fun e w' => e = .returned (.bool r) ∧ Below w.heap.size w w' := by
 have HT := Aside0.mk hTab
 clear hTab
 have hu68 := Tryz.underlying68
 have HR0 := Aside0.mk hr0
 have HC0 := Aside0.mk hc0
 clear hr0 hc0
 have HB := Aside0.mk (Below.refl w.heap.size w)
 have H : (impl_attrsOk.l0 k l0 l0 (l0.length : Int) 0) = some r := h
 clear h
 have H' := Aside0.mk H
 clear H
 go_enter Tryz.func83, Tryz.ntmps83
 go_wp2
 go_loopg [7] k (fun kq v7 w' => ∃ (x7_1 : Int), v7 = .int .i64 x7_1 ∧ Aside0 (impl_attrsOk.l0 kq l0 l0 (l0.length : Int) x7_1 = some r) ∧ Aside0 (kq ≤ k) ∧ Aside0 (Below w.heap.size w w'))
 case atStart => exact ⟨(0), rG, H', ⟨Nat.le_refl _⟩, ⟨hB⟩⟩
 case round =>
  clear H'
  obtain ⟨x7_1, rfl, HA, HK1, HB⟩ := hrel
  cases gk with
  | zero => exact absurd HA.out (by simp [impl_attrsOk.l0])
  | succ k1 =>
   have H := HA.out
   clear HA
   simp only [impl_attrsOk.l0] at H
   by_cases c2 : x7_1 < (l0.length : Int)
   ·rw [if_pos c2] at H
    have c2b0 : decide (x7_1 < (l0.length : Int)) = true := decide_eq_true c2
    clear c2
    obtain ⟨c3, H⟩ := if_som H
    have c3b0 : decide (0 ≤ x7_1) = true := decide_eq_true c3
    clear c3
    obtain ⟨c4, H⟩ := if_som H
    have c4b0 : decide (x7_1 < (l0.length : Int)) = true := decide_eq_true c4
    clear c4
    replace H := Option.bind_eq_some_iff.mp H
    obtain ⟨t358, A50, H⟩ := H
    try dsimp only at H
    have A5 := Aside0.mk A50
    clear A50
    by_cases c6 : t358 = true
    ·subst c6
     rw [if_pos rfl] at H
     by_cases c7 : x7_1 > 0
     ·rw [if_pos c7] at H
      have c7b0 : decide (0 < x7_1) = true := decide_eq_true c7
      clear c7
      obtain ⟨ji8, hji8⟩ : ∃ j_ : Int, (wrap64 (x7_1 - 1)) = j_ := ⟨_, rfl⟩
      replace H : (if 0 ≤ (ji8) then (if (ji8) < (l0.length : Int) then ((impl_compareAttrs.f ((rd_T68 l0 (ji8)).f0) ((rd_T68 l0 (ji8)).f1) ((rd_T68 l0 (ji8)).f2) ((rd_T68 l0 (ji8)).f3) ((rd_T68 l0 x7_1).f0) ((rd_T68 l0 x7_1).f1) ((rd_T68 l0 x7_1).f2) ((rd_T68 l0 x7_1).f3)).bind fun t360 => (if t360 ≥ 0 then (some false) else (impl_attrsOk.l0 k1 l0 l0 (l0.length : Int) (wrap64 (x7_1 + 1))))) else (none)) else (none)) = some r := by first | (rw [hji8] at H; exact H) | (simp only [hji8] at H ⊢; exact H)
      (try rw [hji8] at A5)
      have hji8w : (IntKind.i64.wrap (x7_1 - 1)) = ji8 := (i64_w _).trans hji8
      obtain ⟨c9, H⟩ := if_som H
      have c9b0 : decide (0 ≤ (ji8)) = true := decide_eq_true c9
      clear c9
      obtain ⟨c10, H⟩ := if_som H
      have c10b0 : decide ((ji8) < (l0.length : Int)) = true := decide_eq_true c10
      clear c10
      replace H := Option.bind_eq_some_iff.mp H
      obtain ⟨t360, A110, H⟩ := H
      try dsimp only at H
      have A11 := Aside0.mk A110
      clear A110
      have p356 : 0 ≤ (x7_1 : Int) := odt
      have q356 : x7_1 < (l0.length : Int) := odt
      obtain ⟨ad356, e356, hx356_0, hx356_1, hx356_2, hx356_3⟩ := at_T68 HR0.out x7_1 p356 q356
      cases e356
      replace hx356_0 := pw_cell_below HB.out hx356_0
      replace hx356_1 := pw_cell_below HB.out hx356_1
      replace hx356_2 := pw_cell_below HB.out hx356_2
      replace hx356_3 := pw_cell_below HB.out hx356_3
      replace p356 := eq_true p356
      replace q356 := eq_true q356
      try go_wp2_with (first | ((with_reducible refine gate_dst (N := 4) rfl ?_); refine box_event ?hg (N := 4) ?hd (cs := #[.string (⟨#[]⟩ : ByteArray), .string (⟨#[]⟩ : ByteArray), .string (⟨#[]⟩ : ByteArray), .string (⟨#[]⟩ : ByteArray)]) (t := 68) ?hr ?_; (case hd => rfl); (case hg => rfl); (case hr => first | (go_simp; done) | (go_simp; rfl)); intro gb357 hg w12 hbox hb; have BK357 := Aside0.mk (hbox); have GW357 := Aside0.mk ((by rw [hg]; exact (below_size hB) : w.heap.size ≤ gb357)); have GE357 := Aside0.mk ((by rw [hg]; exact (below_size hB) : w.heap.size ≤ gb357)); replace HB := Aside0.mk (below_step hB hb); clear hb hbox hg; obtain ⟨hcz13_0, hcz13_1, hcz13_2, hcz13_3⟩ := bc4 BK357.out; obtain ⟨hfz13_0, hfz13_1, hfz13_2, hfz13_3⟩ := bf4 BK357.out))
      have n0_ : Aside0 (((((w12.setCell ⟨gb357, 0, none⟩ (.string ((rd_T68 l0 x7_1).f0))).setCell ⟨gb357, 1, none⟩ (.string ((rd_T68 l0 x7_1).f1))).setCell ⟨gb357, 2, none⟩ (.string ((rd_T68 l0 x7_1).f2))).setCell ⟨gb357, 3, none⟩ (.string ((rd_T68 l0 x7_1).f3))).heap[gb357]? = some (.cells #[.string ((rd_T68 l0 x7_1).f0), .string ((rd_T68 l0 x7_1).f1), .string ((rd_T68 l0 x7_1).f2), .string ((rd_T68 l0 x7_1).f3)] 68 (0, 0))) := ⟨by (with_reducible repeat (first | refine bN ?_ _|refine bD ?_|refine bA ?_ _)); exact put4 (by (with_reducible repeat (first | refine bN ?_ _|refine bD ?_|refine bA ?_ _)); exact BK357.out)⟩
      have n1_ : Aside0 (Below w.heap.size w ((((w12.setCell ⟨gb357, 0, none⟩ (.string ((rd_T68 l0 x7_1).f0))).setCell ⟨gb357, 1, none⟩ (.string ((rd_T68 l0 x7_1).f1))).setCell ⟨gb357, 2, none⟩ (.string ((rd_T68 l0 x7_1).f2))).setCell ⟨gb357, 3, none⟩ (.string ((rd_T68 l0 x7_1).f3)))) := ⟨hB⟩
      (try clear BK357)
      (try clear HB)
      generalize ((((w12.setCell ⟨gb357, 0, none⟩ (.string ((rd_T68 l0 x7_1).f0))).setCell ⟨gb357, 1, none⟩ (.string ((rd_T68 l0 x7_1).f1))).setCell ⟨gb357, 2, none⟩ (.string ((rd_T68 l0 x7_1).f2))).setCell ⟨gb357, 3, none⟩ (.string ((rd_T68 l0 x7_1).f3))) = w14 at n0_ n1_ ⊢
      have BK357 := n0_
      have HB := n1_
      clear n0_ n1_
      replace BK357 := Aside0.mk (blk_drew BK357.out)
      replace HB := Aside0.mk (below_drew1 HB.out)
      have p359 : 0 ≤ ((ji8) : Int) := odt
      have q359 : (ji8) < (l0.length : Int) := odt
      obtain ⟨ad359, e359, hx359_0, hx359_1, hx359_2, hx359_3⟩ := at_T68 HR0.out (ji8) p359 q359
      have hw359_3 := hx359_3
      have hw359_2 := hx359_2
      have hw359_1 := hx359_1
      have hw359_0 := hx359_0
      obtain rfl : ad356 = ad359 := (by injection e359)
      replace hx359_0 := pw_cell_below HB.out hx359_0
      replace hx359_1 := pw_cell_below HB.out hx359_1
      replace hx359_2 := pw_cell_below HB.out hx359_2
      replace hx359_3 := pw_cell_below HB.out hx359_3
      replace p359 := eq_true p359
      replace q359 := eq_true q359
      refine start_ (n := 17) (S := fun w' => w'.cell? ⟨gb357, 0, none⟩ = some (.string ((rd_T68 l0 x7_1).f0)) ∧ w'.cell? ⟨gb357, 1, none⟩ = some (.string ((rd_T68 l0 x7_1).f1)) ∧ w'.cell? ⟨gb357, 2, none⟩ = some (.string ((rd_T68 l0 x7_1).f2)) ∧ w'.cell? ⟨gb357, 3, none⟩ = some (.string ((rd_T68 l0 x7_1).f3)) ∧ w'.cell? (ad356.add (((ji8)).toNat * 4)) = some (.string ((rd_T68 l0 (ji8)).f0)) ∧ w'.cell? ⟨(ad356.add (((ji8)).toNat * 4)).block, (ad356.add (((ji8)).toNat * 4)).off + 1, none⟩ = some (.string ((rd_T68 l0 (ji8)).f1)) ∧ w'.cell? ⟨(ad356.add (((ji8)).toNat * 4)).block, (ad356.add (((ji8)).toNat * 4)).off + 2, none⟩ = some (.string ((rd_T68 l0 (ji8)).f2)) ∧ w'.cell? ⟨(ad356.add (((ji8)).toNat * 4)).block, (ad356.add (((ji8)).toNat * 4)).off + 3, none⟩ = some (.string ((rd_T68 l0 (ji8)).f3))) (ds := []) #[false, false, false, false, false, false, false, false, false, false, false, false, false, false, false, false, false] (by kernel_rfl) rfl rfl ⟨(blk_cell BK357.out 0).trans rfl, (blk_cell BK357.out 1).trans rfl, (blk_cell BK357.out 2).trans rfl, (blk_cell BK357.out 3).trans rfl, (pw_cell_below HB.out hw359_0), (pw_cell_below HB.out hw359_1), (pw_cell_below HB.out hw359_2), (pw_cell_below HB.out hw359_3)⟩ (fun hHeld => ?_); refine with_tabW impl_attrsOk.tab4 impl_attrsOk.bits4 (fun HT_ HW_ => ?_)
      generalize w14.drew = w15 at BK357 HB hx359_0 hx359_1 hx359_2 hx359_3 hHeld ⊢
      refine take_ (i := 0) (N := some 12) (v := ?_) (a' := ?_) (tf 1 16) rfl rfl (take_ofW HT_.out HW_.out (by kernel_rfl)) (fun _ _ _ h => h) (Or.inl ⟨by rfl, ?_⟩) hHeld ?_ ?_
      rotate_left
      ·rintro w' ⟨s0, s1, s2, s3, s4, s5, s6, s7⟩
       go_simp
       with_reducible rfl
      rotate_left
      ·simp only [Act.put, sT, sZ, sS, i64_w, i32_w]
       rfl
      refine one_ (i := 1) (N := some 13) (tf 2 15) rfl rfl (one_of HT_.out (by kernel_rfl)) (by decide) (fun K hK => ?_)
      refine goes_ Tryz.func116 (by kernel_rfl) rfl #[.agg #[.string ((rd_T68 l0 x7_1).f0), .string ((rd_T68 l0 x7_1).f1), .string ((rd_T68 l0 x7_1).f2), .string ((rd_T68 l0 x7_1).f3)]] (by rfl) rfl rfl mA ?_
      with_reducible refine (impl_attrOk.calls k1 ((rd_T68 l0 x7_1).f0) ((rd_T68 l0 x7_1).f1) ((rd_T68 l0 x7_1).f2) ((rd_T68 l0 x7_1).f3) true _ ?tabs A5.out).mono ?_
      case tabs => first | exact Tabs.below HT.out hB | (repeat (first | exact HT.out | (with_reducible refine Tabs.drewN ?_ _) | (with_reducible refine Tabs.drew ?_) | (with_reducible refine Tabs.alloc ?_ _)))
      rintro e w16 ⟨rfl, hb⟩
      refine ⟨_, rfl, ?_⟩
      replace BK357 := Aside0.mk (blk_below (g := gb357) (by (with_reducible repeat (first | refine bN ?_ _|refine bD ?_|refine bA ?_ _)); exact BK357.out) hb)
      replace HB := Aside0.mk (below_step hB hb)
      (try clear hb)
      (try clear hb2)
      (try clear hk)
      (try clear hi)
      refine hK.out _ _ ⟨(blk_cell BK357.out 0).trans rfl, (blk_cell BK357.out 1).trans rfl, (blk_cell BK357.out 2).trans rfl, (blk_cell BK357.out 3).trans rfl, (pw_cell_below HB.out hw359_0), (pw_cell_below HB.out hw359_1), (pw_cell_below HB.out hw359_2), (pw_cell_below HB.out hw359_3)⟩ (fun hHeld => ?_)
      clear hK K
      refine norm_ (a' := ?_) ?_ ?_
      rotate_left
      ·show Act.put _ (some 13) _ = _
       simp only [Act.put, sT, sZ, sS, i64_w, i32_w]
       rfl
      refine pU 2 14 (tf 3 14) ?_
      refine pU 3 15 (tf 4 13) ?_
      refine pU 4 16 (tf 5 12) ?_
      refine pU 5 17 (tf 6 11) ?_
      refine pU 6 18 (tf 7 10) ?_
      refine pU 7 19 (tf 8 9) ?_
      refine pU 8 20 (tf 9 8) ?_
      refine pU 9 21 (tf 10 7) ?_
      refine pU 10 22 (tf 11 6) ?_
      refine take_ (i := 11) (N := some 23) (v := ?_) (a' := ?_) (tf 12 5) rfl rfl (take_ofW HT_.out HW_.out (by kernel_rfl)) (fun _ _ _ h => h) (Or.inl ⟨by rfl, ?_⟩) hHeld ?_ ?_
      rotate_left
      ·rintro w' ⟨s0, s1, s2, s3, s4, s5, s6, s7⟩
       go_simp
       with_reducible rfl
      rotate_left
      ·simp only [Act.put, sT, sZ, sS, i64_w, i32_w]
       rfl
      refine take_ (i := 12) (N := some 24) (v := ?_) (a' := ?_) (tf 13 4) rfl rfl (take_ofW HT_.out HW_.out (by kernel_rfl)) (fun _ _ _ h => h) (Or.inl ⟨by rfl, ?_⟩) hHeld ?_ ?_
      rotate_left
      ·rintro w' ⟨s0, s1, s2, s3, s4, s5, s6, s7⟩
       go_simp
       with_reducible rfl
      rotate_left
      ·simp only [Act.put, sT, sZ, sS, i64_w, i32_w]
       rfl
      refine one_ (i := 13) (N := some 25) (tf 14 3) rfl rfl (one_of HT_.out (by kernel_rfl)) (by decide) (fun K hK => ?_)
      refine goes_ Tryz.func117 (by kernel_rfl) rfl #[.agg #[.string ((rd_T68 l0 (ji8)).f0), .string ((rd_T68 l0 (ji8)).f1), .string ((rd_T68 l0 (ji8)).f2), .string ((rd_T68 l0 (ji8)).f3)], .agg #[.string ((rd_T68 l0 x7_1).f0), .string ((rd_T68 l0 x7_1).f1), .string ((rd_T68 l0 x7_1).f2), .string ((rd_T68 l0 x7_1).f3)]] (by rfl) rfl rfl (by (try simp only [List.map_toArray, List.map_cons, List.map_nil]); first | done | (simp only [hji8]; rfl) | rfl | (simp only [List.length_drop, List.length_take]; rfl)) ?_
      with_reducible refine (impl_compareAttrs.calls ((rd_T68 l0 (ji8)).f0) ((rd_T68 l0 (ji8)).f1) ((rd_T68 l0 (ji8)).f2) ((rd_T68 l0 (ji8)).f3) ((rd_T68 l0 x7_1).f0) ((rd_T68 l0 x7_1).f1) ((rd_T68 l0 x7_1).f2) ((rd_T68 l0 x7_1).f3) t360 _ A11.out).mono ?_
      rintro e w17 ⟨rfl, hb⟩
      refine ⟨_, rfl, ?_⟩
      replace BK357 := Aside0.mk (blk_below (g := gb357) (by (with_reducible repeat (first | refine bN ?_ _|refine bD ?_|refine bA ?_ _)); exact BK357.out) hb)
      replace HB := Aside0.mk (below_step hB hb)
      (try clear hb)
      (try clear hb2)
      (try clear hk)
      (try clear hi)
      refine hK.out _ _ ⟨(blk_cell BK357.out 0).trans rfl, (blk_cell BK357.out 1).trans rfl, (blk_cell BK357.out 2).trans rfl, (blk_cell BK357.out 3).trans rfl, (pw_cell_below HB.out hw359_0), (pw_cell_below HB.out hw359_1), (pw_cell_below HB.out hw359_2), (pw_cell_below HB.out hw359_3)⟩ (fun hHeld => ?_)
      clear hK K
      refine norm_ (a' := ?_) ?_ ?_
      rotate_left
      ·show Act.put _ (some 25) _ = _
       simp only [Act.put, sT, sZ, sS, i64_w, i32_w]
       rfl
      refine pU 14 26 (tf 15 2) ?_
      refine pU 15 27 (tf 16 1) ?_
      refine pU 16 28 (tf 17 0) ?_
      refine done_ (done_of HT_.out (by kernel_rfl)) ?_
      by_cases c18 : t360 ≥ 0
      ·rw [if_pos c18] at H
       have c18b0 : decide (0 ≤ t360) = true := decide_eq_true c18
       clear c18
       (first | rw [c18b0] | (simp only [i64_w, i32_w]; rw [c18b0]) | skip)
       obtain rfl := Option.some.inj H
       go_wp2
       go_ret
       exact ⟨by first | rfl | (simp [errW_none, errW_some] <;> rfl) | (simp only [← hji8]; first | rfl | (simp [errW_none, errW_some] <;> rfl)) | (simp [*, errW_none, errW_some] <;> rfl), hB⟩
      ·rw [if_neg c18] at H
       have c18b0 : decide (0 ≤ t360) = false := decide_eq_false c18
       clear c18
       (first | rw [c18b0] | (simp only [i64_w, i32_w]; rw [c18b0]) | skip)
       have H' := Aside0.mk H
       clear H
       go_wp2
       go_roundg k1
       case measure => have := HK1.out; omega
       case rel => exact ⟨(wrap64 (x7_1 + 1)), rG, H', ⟨by have := HK1.out; omega⟩, ⟨hB⟩⟩
     ·rw [if_neg c7] at H
      have c7b0 : decide (0 < x7_1) = false := decide_eq_false c7
      clear c7
      have H' := Aside0.mk H
      clear H
      have p356 : 0 ≤ (x7_1 : Int) := odt
      have q356 : x7_1 < (l0.length : Int) := odt
      obtain ⟨ad356, e356, hx356_0, hx356_1, hx356_2, hx356_3⟩ := at_T68 HR0.out x7_1 p356 q356
      cases e356
      replace hx356_0 := pw_cell_below HB.out hx356_0
      replace hx356_1 := pw_cell_below HB.out hx356_1
      replace hx356_2 := pw_cell_below HB.out hx356_2
      replace hx356_3 := pw_cell_below HB.out hx356_3
      replace p356 := eq_true p356
      replace q356 := eq_true q356
      try go_wp2_with (first | ((with_reducible refine gate_dst (N := 4) rfl ?_); refine box_event ?hg (N := 4) ?hd (cs := #[.string (⟨#[]⟩ : ByteArray), .string (⟨#[]⟩ : ByteArray), .string (⟨#[]⟩ : ByteArray), .string (⟨#[]⟩ : ByteArray)]) (t := 68) ?hr ?_; (case hd => rfl); (case hg => rfl); (case hr => first | (go_simp; done) | (go_simp; rfl)); intro gb357 hg w19 hbox hb; have BK357 := Aside0.mk (hbox); have GW357 := Aside0.mk ((by rw [hg]; exact (below_size hB) : w.heap.size ≤ gb357)); have GE357 := Aside0.mk ((by rw [hg]; exact (below_size hB) : w.heap.size ≤ gb357)); replace HB := Aside0.mk (below_step hB hb); clear hb hbox hg; obtain ⟨hcz20_0, hcz20_1, hcz20_2, hcz20_3⟩ := bc4 BK357.out; obtain ⟨hfz20_0, hfz20_1, hfz20_2, hfz20_3⟩ := bf4 BK357.out))
      have n0_ : Aside0 (((((w19.setCell ⟨gb357, 0, none⟩ (.string ((rd_T68 l0 x7_1).f0))).setCell ⟨gb357, 1, none⟩ (.string ((rd_T68 l0 x7_1).f1))).setCell ⟨gb357, 2, none⟩ (.string ((rd_T68 l0 x7_1).f2))).setCell ⟨gb357, 3, none⟩ (.string ((rd_T68 l0 x7_1).f3))).heap[gb357]? = some (.cells #[.string ((rd_T68 l0 x7_1).f0), .string ((rd_T68 l0 x7_1).f1), .string ((rd_T68 l0 x7_1).f2), .string ((rd_T68 l0 x7_1).f3)] 68 (0, 0))) := ⟨by (with_reducible repeat (first | refine bN ?_ _|refine bD ?_|refine bA ?_ _)); exact put4 (by (with_reducible repeat (first | refine bN ?_ _|refine bD ?_|refine bA ?_ _)); exact BK357.out)⟩
      have n1_ : Aside0 (Below w.heap.size w ((((w19.setCell ⟨gb357, 0, none⟩ (.string ((rd_T68 l0 x7_1).f0))).setCell ⟨gb357, 1, none⟩ (.string ((rd_T68 l0 x7_1).f1))).setCell ⟨gb357, 2, none⟩ (.string ((rd_T68 l0 x7_1).f2))).setCell ⟨gb357, 3, none⟩ (.string ((rd_T68 l0 x7_1).f3)))) := ⟨hB⟩
      (try clear BK357)
      (try clear HB)
      generalize ((((w19.setCell ⟨gb357, 0, none⟩ (.string ((rd_T68 l0 x7_1).f0))).setCell ⟨gb357, 1, none⟩ (.string ((rd_T68 l0 x7_1).f1))).setCell ⟨gb357, 2, none⟩ (.string ((rd_T68 l0 x7_1).f2))).setCell ⟨gb357, 3, none⟩ (.string ((rd_T68 l0 x7_1).f3))) = w21 at n0_ n1_ ⊢
      have BK357 := n0_
      have HB := n1_
      clear n0_ n1_
      replace BK357 := Aside0.mk (blk_drew BK357.out)
      replace HB := Aside0.mk (below_drew1 HB.out)
      refine start_ (n := 17) (S := fun w' => w'.cell? ⟨gb357, 0, none⟩ = some (.string ((rd_T68 l0 x7_1).f0)) ∧ w'.cell? ⟨gb357, 1, none⟩ = some (.string ((rd_T68 l0 x7_1).f1)) ∧ w'.cell? ⟨gb357, 2, none⟩ = some (.string ((rd_T68 l0 x7_1).f2)) ∧ w'.cell? ⟨gb357, 3, none⟩ = some (.string ((rd_T68 l0 x7_1).f3))) (ds := []) #[false, false, false, false, false, false, false, false, false, false, false, false, false, false, false, false, false] (by kernel_rfl) rfl rfl ⟨(blk_cell BK357.out 0).trans rfl, (blk_cell BK357.out 1).trans rfl, (blk_cell BK357.out 2).trans rfl, (blk_cell BK357.out 3).trans rfl⟩ (fun hHeld => ?_); refine with_tabW impl_attrsOk.tab4 impl_attrsOk.bits4 (fun HT_ HW_ => ?_)
      generalize w21.drew = w22 at BK357 HB hHeld ⊢
      refine take_ (i := 0) (N := some 12) (v := ?_) (a' := ?_) (tf 1 16) rfl rfl (take_ofW HT_.out HW_.out (by kernel_rfl)) (fun _ _ _ h => h) (Or.inl ⟨by rfl, ?_⟩) hHeld ?_ ?_
      rotate_left
      ·rintro w' ⟨s0, s1, s2, s3⟩
       go_simp
       with_reducible rfl
      rotate_left
      ·simp only [Act.put, sT, sZ, sS, i64_w, i32_w]
       rfl
      refine one_ (i := 1) (N := some 13) (tf 2 15) rfl rfl (one_of HT_.out (by kernel_rfl)) (by decide) (fun K hK => ?_)
      refine goes_ Tryz.func116 (by kernel_rfl) rfl #[.agg #[.string ((rd_T68 l0 x7_1).f0), .string ((rd_T68 l0 x7_1).f1), .string ((rd_T68 l0 x7_1).f2), .string ((rd_T68 l0 x7_1).f3)]] (by rfl) rfl rfl mA ?_
      with_reducible refine (impl_attrOk.calls k1 ((rd_T68 l0 x7_1).f0) ((rd_T68 l0 x7_1).f1) ((rd_T68 l0 x7_1).f2) ((rd_T68 l0 x7_1).f3) true _ ?tabs A5.out).mono ?_
      case tabs => first | exact Tabs.below HT.out hB | (repeat (first | exact HT.out | (with_reducible refine Tabs.drewN ?_ _) | (with_reducible refine Tabs.drew ?_) | (with_reducible refine Tabs.alloc ?_ _)))
      rintro e w23 ⟨rfl, hb⟩
      refine ⟨_, rfl, ?_⟩
      replace BK357 := Aside0.mk (blk_below (g := gb357) (by (with_reducible repeat (first | refine bN ?_ _|refine bD ?_|refine bA ?_ _)); exact BK357.out) hb)
      replace HB := Aside0.mk (below_step hB hb)
      (try clear hb)
      (try clear hb2)
      (try clear hk)
      (try clear hi)
      refine hK.out _ _ ⟨(blk_cell BK357.out 0).trans rfl, (blk_cell BK357.out 1).trans rfl, (blk_cell BK357.out 2).trans rfl, (blk_cell BK357.out 3).trans rfl⟩ (fun hHeld => ?_)
      clear hK K
      refine norm_ (a' := ?_) ?_ ?_
      rotate_left
      ·show Act.put _ (some 13) _ = _
       simp only [Act.put, sT, sZ, sS, i64_w, i32_w]
       rfl
      refine pU 2 14 (tf 3 14) ?_
      refine pU 3 15 (tf 4 13) ?_
      refine pU 4 16 (tf 5 12) ?_
      refine pU 5 17 (tf 6 11) ?_
      refine pU 6 18 (tf 7 10) ?_
      refine pV 7 19 (tf 8 9) ?_
       rfl
      refine pV 8 20 (tf 9 8) ?_
       rfl
      refine pV 9 21 (tf 10 7) ?_
       rfl
      refine pV 10 22 (tf 11 6) ?_
       rfl
      refine pV 11 23 (tf 12 5) ?_
       rfl
      refine pV 12 24 (tf 13 4) ?_
       rfl
      refine pV 13 25 (tf 14 3) ?_
       rfl
      refine pV 14 26 (tf 15 2) ?_
       rfl
      refine pU 15 27 (tf 16 1) ?_
      refine pU 16 28 (tf 17 0) ?_
      refine done_ (done_of HT_.out (by kernel_rfl)) ?_
      try go_wp2
      go_roundg k1
      case measure => have := HK1.out; omega
      case rel => exact ⟨(wrap64 (x7_1 + 1)), rG, H', ⟨by have := HK1.out; omega⟩, ⟨hB⟩⟩
    ·replace c6 := Bool.eq_false_iff.mpr c6
     subst c6
     rw [if_neg (show ¬ (false = true) by decide)] at H
     obtain rfl := Option.some.inj H
     have p356 : 0 ≤ (x7_1 : Int) := odt
     have q356 : x7_1 < (l0.length : Int) := odt
     obtain ⟨ad356, e356, hx356_0, hx356_1, hx356_2, hx356_3⟩ := at_T68 HR0.out x7_1 p356 q356
     cases e356
     replace hx356_0 := pw_cell_below HB.out hx356_0
     replace hx356_1 := pw_cell_below HB.out hx356_1
     replace hx356_2 := pw_cell_below HB.out hx356_2
     replace hx356_3 := pw_cell_below HB.out hx356_3
     replace p356 := eq_true p356
     replace q356 := eq_true q356
     try go_wp2_with (first | ((with_reducible refine gate_dst (N := 4) rfl ?_); refine box_event ?hg (N := 4) ?hd (cs := #[.string (⟨#[]⟩ : ByteArray), .string (⟨#[]⟩ : ByteArray), .string (⟨#[]⟩ : ByteArray), .string (⟨#[]⟩ : ByteArray)]) (t := 68) ?hr ?_; (case hd => rfl); (case hg => rfl); (case hr => first | (go_simp; done) | (go_simp; rfl)); intro gb357 hg w24 hbox hb; have BK357 := Aside0.mk (hbox); have GW357 := Aside0.mk ((by rw [hg]; exact (below_size hB) : w.heap.size ≤ gb357)); have GE357 := Aside0.mk ((by rw [hg]; exact (below_size hB) : w.heap.size ≤ gb357)); replace HB := Aside0.mk (below_step hB hb); clear hb hbox hg; obtain ⟨hcz25_0, hcz25_1, hcz25_2, hcz25_3⟩ := bc4 BK357.out; obtain ⟨hfz25_0, hfz25_1, hfz25_2, hfz25_3⟩ := bf4 BK357.out))
     have n0_ : Aside0 (((((w24.setCell ⟨gb357, 0, none⟩ (.string ((rd_T68 l0 x7_1).f0))).setCell ⟨gb357, 1, none⟩ (.string ((rd_T68 l0 x7_1).f1))).setCell ⟨gb357, 2, none⟩ (.string ((rd_T68 l0 x7_1).f2))).setCell ⟨gb357, 3, none⟩ (.string ((rd_T68 l0 x7_1).f3))).heap[gb357]? = some (.cells #[.string ((rd_T68 l0 x7_1).f0), .string ((rd_T68 l0 x7_1).f1), .string ((rd_T68 l0 x7_1).f2), .string ((rd_T68 l0 x7_1).f3)] 68 (0, 0))) := ⟨by (with_reducible repeat (first | refine bN ?_ _|refine bD ?_|refine bA ?_ _)); exact put4 (by (with_reducible repeat (first | refine bN ?_ _|refine bD ?_|refine bA ?_ _)); exact BK357.out)⟩
     have n1_ : Aside0 (Below w.heap.size w ((((w24.setCell ⟨gb357, 0, none⟩ (.string ((rd_T68 l0 x7_1).f0))).setCell ⟨gb357, 1, none⟩ (.string ((rd_T68 l0 x7_1).f1))).setCell ⟨gb357, 2, none⟩ (.string ((rd_T68 l0 x7_1).f2))).setCell ⟨gb357, 3, none⟩ (.string ((rd_T68 l0 x7_1).f3)))) := ⟨hB⟩
     (try clear BK357)
     (try clear HB)
     generalize ((((w24.setCell ⟨gb357, 0, none⟩ (.string ((rd_T68 l0 x7_1).f0))).setCell ⟨gb357, 1, none⟩ (.string ((rd_T68 l0 x7_1).f1))).setCell ⟨gb357, 2, none⟩ (.string ((rd_T68 l0 x7_1).f2))).setCell ⟨gb357, 3, none⟩ (.string ((rd_T68 l0 x7_1).f3))) = w26 at n0_ n1_ ⊢
     have BK357 := n0_
     have HB := n1_
     clear n0_ n1_
     replace BK357 := Aside0.mk (blk_drew BK357.out)
     replace HB := Aside0.mk (below_drew1 HB.out)
     refine start_ (n := 17) (S := fun w' => w'.cell? ⟨gb357, 0, none⟩ = some (.string ((rd_T68 l0 x7_1).f0)) ∧ w'.cell? ⟨gb357, 1, none⟩ = some (.string ((rd_T68 l0 x7_1).f1)) ∧ w'.cell? ⟨gb357, 2, none⟩ = some (.string ((rd_T68 l0 x7_1).f2)) ∧ w'.cell? ⟨gb357, 3, none⟩ = some (.string ((rd_T68 l0 x7_1).f3))) (ds := []) #[false, false, false, false, false, false, false, false, false, false, false, false, false, false, false, false, false] (by kernel_rfl) rfl rfl ⟨(blk_cell BK357.out 0).trans rfl, (blk_cell BK357.out 1).trans rfl, (blk_cell BK357.out 2).trans rfl, (blk_cell BK357.out 3).trans rfl⟩ (fun hHeld => ?_); refine with_tabW impl_attrsOk.tab4 impl_attrsOk.bits4 (fun HT_ HW_ => ?_)
     generalize w26.drew = w27 at BK357 HB hHeld ⊢
     refine take_ (i := 0) (N := some 12) (v := ?_) (a' := ?_) (tf 1 16) rfl rfl (take_ofW HT_.out HW_.out (by kernel_rfl)) (fun _ _ _ h => h) (Or.inl ⟨by rfl, ?_⟩) hHeld ?_ ?_
     rotate_left
     ·rintro w' ⟨s0, s1, s2, s3⟩
      go_simp
      with_reducible rfl
     rotate_left
     ·simp only [Act.put, sT, sZ, sS, i64_w, i32_w]
      rfl
     refine one_ (i := 1) (N := some 13) (tf 2 15) rfl rfl (one_of HT_.out (by kernel_rfl)) (by decide) (fun K hK => ?_)
     refine goes_ Tryz.func116 (by kernel_rfl) rfl #[.agg #[.string ((rd_T68 l0 x7_1).f0), .string ((rd_T68 l0 x7_1).f1), .string ((rd_T68 l0 x7_1).f2), .string ((rd_T68 l0 x7_1).f3)]] (by rfl) rfl rfl mA ?_
     with_reducible refine (impl_attrOk.calls k1 ((rd_T68 l0 x7_1).f0) ((rd_T68 l0 x7_1).f1) ((rd_T68 l0 x7_1).f2) ((rd_T68 l0 x7_1).f3) false _ ?tabs A5.out).mono ?_
     case tabs => first | exact Tabs.below HT.out hB | (repeat (first | exact HT.out | (with_reducible refine Tabs.drewN ?_ _) | (with_reducible refine Tabs.drew ?_) | (with_reducible refine Tabs.alloc ?_ _)))
     rintro e w28 ⟨rfl, hb⟩
     refine ⟨_, rfl, ?_⟩
     replace BK357 := Aside0.mk (blk_below (g := gb357) (by (with_reducible repeat (first | refine bN ?_ _|refine bD ?_|refine bA ?_ _)); exact BK357.out) hb)
     replace HB := Aside0.mk (below_step hB hb)
     (try clear hb)
     (try clear hb2)
     (try clear hk)
     (try clear hi)
     refine hK.out _ _ ⟨(blk_cell BK357.out 0).trans rfl, (blk_cell BK357.out 1).trans rfl, (blk_cell BK357.out 2).trans rfl, (blk_cell BK357.out 3).trans rfl⟩ (fun hHeld => ?_)
     clear hK K
     refine norm_ (a' := ?_) ?_ ?_
     rotate_left
     ·show Act.put _ (some 13) _ = _
      simp only [Act.put, sT, sZ, sS, i64_w, i32_w]
      rfl
     refine pU 2 14 (tf 3 14) ?_
     refine pU 3 15 (tf 4 13) ?_
     refine pV 4 16 (tf 5 12) ?_
      rfl
     refine pV 5 17 (tf 6 11) ?_
      rfl
     refine pV 6 18 (tf 7 10) ?_
      rfl
     refine pV 7 19 (tf 8 9) ?_
      rfl
     refine pV 8 20 (tf 9 8) ?_
      rfl
     refine pV 9 21 (tf 10 7) ?_
      rfl
     refine pV 10 22 (tf 11 6) ?_
      rfl
     refine pV 11 23 (tf 12 5) ?_
      rfl
     refine pV 12 24 (tf 13 4) ?_
      rfl
     refine pV 13 25 (tf 14 3) ?_
      rfl
     refine pV 14 26 (tf 15 2) ?_
      rfl
     refine pV 15 27 (tf 16 1) ?_
      rfl
     refine pU 16 28 (tf 17 0) ?_
     refine done_ (done_of HT_.out (by kernel_rfl)) ?_
     try go_wp2
     go_ret
     exact ⟨rE, hB⟩
   ·rw [if_neg c2] at H
    have c2b0 : decide (x7_1 < (l0.length : Int)) = false := decide_eq_false c2
    clear c2
    obtain rfl := Option.some.inj H
    go_wp2
    go_ret
    exact ⟨rE, hB⟩

/-! ### impl_noTwoTexts: function 84 -/
def impl_noTwoTexts.l0 : Nat → List (S28) → List (S28) → Int → Int → Option (Bool)
 | 0, _, _, _, _ => none
 | k + 1, x0, x5, x6, x7 => if x7 < x6 then (if 0 ≤ x7 then (if x7 < (x5.length : Int) then (if x7 > 0 then (if ((rd_T28 x5 x7).f0) = 2 then (if 0 ≤ (wrap64 (x7 - 1)) then (if (wrap64 (x7 - 1)) < (x0.length : Int) then (if ((rd_T28 x0 (wrap64 (x7 - 1))).f0) = 2 then (some false) else (impl_noTwoTexts.l0 k x0 x5 x6 (wrap64 (x7 + 1)))) else (none)) else (none)) else (impl_noTwoTexts.l0 k x0 x5 x6 (wrap64 (x7 + 1)))) else (impl_noTwoTexts.l0 k x0 x5 x6 (wrap64 (x7 + 1)))) else (none)) else (none)) else (some true)
def impl_noTwoTexts.f (k : Nat) (l0 : List (S28)) : Option (Bool) := impl_noTwoTexts.l0 k l0 l0 (l0.length : Int) 0
theorem impl_noTwoTexts.mono_l : ∀ k, (∀ y0 y1 y2 y3, LeO (impl_noTwoTexts.l0 k y0 y1 y2 y3) (impl_noTwoTexts.l0 (k + 1) y0 y1 y2 y3))
 | 0 => fun _ _ _ _ r h => by simp [impl_noTwoTexts.l0] at h
 | k + 1 => by
  have ih0 := impl_noTwoTexts.mono_l k
  ·intro y0 y1 y2 y3
   unfold impl_noTwoTexts.l0
   repeat' first
   | (with_reducible exact ih0 _ _ _ _)
   | (with_reducible exact LeO.refl _)
   | (with_reducible exact LeO.none _)
   | (with_reducible refine LeO.ite ?_ ?_)
   | (with_reducible refine LeO.bind ?_ (fun _ => ?_))
   | exact ih0 _ _ _ _
   | exact LeO.none _
   | refine LeO.ite ?_ ?_
   | refine LeO.bind ?_ (fun _ => ?_)
theorem impl_noTwoTexts.mono : ∀ a0 k, LeO (impl_noTwoTexts.f k a0) (impl_noTwoTexts.f (k + 1) a0) := by
 intro a0 k
 have ih0 := impl_noTwoTexts.mono_l k
 unfold impl_noTwoTexts.f
 repeat' first
   | (with_reducible exact ih0 _ _ _ _)
   | (with_reducible exact LeO.refl _)
   | (with_reducible exact LeO.none _)
   | (with_reducible refine LeO.ite ?_ ?_)
   | (with_reducible refine LeO.bind ?_ (fun _ => ?_))
   | exact ih0 _ _ _ _
   | exact LeO.none _
   | refine LeO.ite ?_ ?_
   | refine LeO.bind ?_ (fun _ => ?_)
theorem impl_noTwoTexts.calls (k : Nat) (A0 : Option Addr) (c0 : Nat) (l0 : List (S28)) (r : Bool) (w : World) (hr0 : Kd.C k28 w A0 l0.length l0) (hc0 : l0.length ≤ c0) (h : impl_noTwoTexts.f k l0 = some r) :
  Calls Tryz.prog 84 #[.slice A0 l0.length c0] w fun e w' => e = .returned (.bool r) ∧ Below w.heap.size w w' := by
 have hu28 := Tryz.underlying28
 have HR0 := Aside0.mk hr0
 have HC0 := Aside0.mk hc0
 clear hr0 hc0
 have HB := Aside0.mk (Below.refl w.heap.size w)
 have H : (impl_noTwoTexts.l0 k l0 l0 (l0.length : Int) 0) = some r := h
 clear h
 have H' := Aside0.mk H
 clear H
 go_enter Tryz.func84, Tryz.ntmps84
 go_wp2
 go_loopg [7] k (fun kq v7 w' => ∃ (x7_1 : Int), v7 = .int .i64 x7_1 ∧ Aside0 (impl_noTwoTexts.l0 kq l0 l0 (l0.length : Int) x7_1 = some r) ∧ Aside0 (kq ≤ k) ∧ Aside0 (Below w.heap.size w w'))
 case atStart => exact ⟨(0), rG, H', ⟨Nat.le_refl _⟩, ⟨hB⟩⟩
 case round =>
  clear H'
  obtain ⟨x7_1, rfl, HA, HK1, HB⟩ := hrel
  cases gk with
  | zero => exact absurd HA.out (by simp [impl_noTwoTexts.l0])
  | succ k1 =>
   have H := HA.out
   clear HA
   simp only [impl_noTwoTexts.l0] at H
   by_cases c2 : x7_1 < (l0.length : Int)
   ·rw [if_pos c2] at H
    have c2b0 : decide (x7_1 < (l0.length : Int)) = true := decide_eq_true c2
    clear c2
    obtain ⟨c3, H⟩ := if_som H
    have c3b0 : decide (0 ≤ x7_1) = true := decide_eq_true c3
    clear c3
    obtain ⟨c4, H⟩ := if_som H
    have c4b0 : decide (x7_1 < (l0.length : Int)) = true := decide_eq_true c4
    clear c4
    have p361 : 0 ≤ (x7_1 : Int) := odt
    have q361 : x7_1 < (l0.length : Int) := odt
    obtain ⟨ad361, A361_4, c361_4, A361_5, c361_5, A361_6, c361_6, e361, hx361_0, hx361_1, hx361_2, hx361_3, hx361_4, hx361_5, hx361_6, hx361_7, hl361_4, hi361_4, hl361_5, hi361_5, hl361_6, hi361_6⟩ := at_T28 HR0.out x7_1 p361 q361
    cases e361
    replace hx361_0 := pw_cell_below HB.out hx361_0
    replace hx361_1 := pw_cell_below HB.out hx361_1
    replace hx361_2 := pw_cell_below HB.out hx361_2
    replace hx361_3 := pw_cell_below HB.out hx361_3
    replace hx361_4 := pw_cell_below HB.out hx361_4
    replace hx361_5 := pw_cell_below HB.out hx361_5
    replace hx361_6 := pw_cell_below HB.out hx361_6
    replace hx361_7 := pw_cell_below HB.out hx361_7
    have HR361_4 := Aside0.mk hi361_4
    have HC361_4 := Aside0.mk hl361_4
    clear hi361_4 hl361_4
    have HR361_5 := Aside0.mk hi361_5
    have HC361_5 := Aside0.mk hl361_5
    clear hi361_5 hl361_5
    have HR361_6 := Aside0.mk hi361_6
    have HC361_6 := Aside0.mk hl361_6
    clear hi361_6 hl361_6
    replace p361 := eq_true p361
    replace q361 := eq_true q361
    go_wp2_with (first | ((with_reducible refine gate_dst (N := 4) rfl ?_); refine box_event ?hg (N := 4) ?hd (cs := #[.int .i64 0, .string (⟨#[]⟩ : ByteArray), .string (⟨#[]⟩ : ByteArray), .string (⟨#[]⟩ : ByteArray), .slice none 0 0, .slice none 0 0, .slice none 0 0, .string (⟨#[]⟩ : ByteArray)]) (t := 28) ?hr ?_; (case hd => rfl); (case hg => rfl); (case hr => first | (go_simp; done) | (go_simp; rfl)); intro gb362 hg w5 hbox hb; have BK362 := Aside0.mk (hbox); have GW362 := Aside0.mk ((by rw [hg]; exact (below_size hB) : w.heap.size ≤ gb362)); have GE362 := Aside0.mk ((by rw [hg]; exact (below_size hB) : w.heap.size ≤ gb362)); replace HB := Aside0.mk (below_step hB hb); clear hb hbox hg; obtain ⟨hcz6_0, hcz6_1, hcz6_2, hcz6_3, hcz6_4, hcz6_5, hcz6_6, hcz6_7⟩ := bc8 BK362.out; obtain ⟨hfz6_0, hfz6_1, hfz6_2, hfz6_3, hfz6_4, hfz6_5, hfz6_6, hfz6_7⟩ := bf8 BK362.out; refine halt_ ?_; intro q_ hq_))
    obtain ⟨rfl⟩ := hq_
    by_cases c7 : x7_1 > 0
    ·rw [if_pos c7] at H
     have c7b0 : decide (0 < x7_1) = true := decide_eq_true c7
     clear c7
     by_cases c8 : ((rd_T28 l0 x7_1).f0) = 2
     ·rw [if_pos c8] at H
      obtain ⟨c8b0, c8b1⟩ := eqT c8
      clear c8
      obtain ⟨ji9, hji9⟩ : ∃ j_ : Int, (wrap64 (x7_1 - 1)) = j_ := ⟨_, rfl⟩
      replace H : (if 0 ≤ (ji9) then (if (ji9) < (l0.length : Int) then (if ((rd_T28 l0 (ji9)).f0) = 2 then (some false) else (impl_noTwoTexts.l0 k1 l0 l0 (l0.length : Int) (wrap64 (x7_1 + 1)))) else (none)) else (none)) = some r := by first | (rw [hji9] at H; exact H) | (simp only [hji9] at H ⊢; exact H)
      have hji9w : (IntKind.i64.wrap (x7_1 - 1)) = ji9 := (i64_w _).trans hji9
      obtain ⟨c10, H⟩ := if_som H
      have c10b0 : decide (0 ≤ (ji9)) = true := decide_eq_true c10
      clear c10
      obtain ⟨c11, H⟩ := if_som H
      have c11b0 : decide ((ji9) < (l0.length : Int)) = true := decide_eq_true c11
      clear c11
      by_cases c12 : ((rd_T28 l0 (ji9)).f0) = 2
      ·rw [if_pos c12] at H
       obtain ⟨c12b0, c12b1⟩ := eqT c12
       clear c12
       obtain rfl := Option.some.inj H
       obtain ⟨hcz13_0, hcz13_1, hcz13_2, hcz13_3, hcz13_4, hcz13_5, hcz13_6, hcz13_7⟩ := bc8 BK362.out
       obtain ⟨hfz13_0, hfz13_1, hfz13_2, hfz13_3, hfz13_4, hfz13_5, hfz13_6, hfz13_7⟩ := bf8 BK362.out
       have p363 : 0 ≤ ((ji9) : Int) := odt
       have q363 : (ji9) < (l0.length : Int) := odt
       obtain ⟨ad363, A363_4, c363_4, A363_5, c363_5, A363_6, c363_6, e363, hx363_0, hx363_1, hx363_2, hx363_3, hx363_4, hx363_5, hx363_6, hx363_7, hl363_4, hi363_4, hl363_5, hi363_5, hl363_6, hi363_6⟩ := at_T28 HR0.out (ji9) p363 q363
       obtain rfl : ad361 = ad363 := (by injection e363)
       have hn363_0 : ad361.block ≠ gb362 := Nat.ne_of_lt (Nat.lt_of_lt_of_le (by have := World.block_lt_of_cell? _ _ hx363_0; first | rwa [add_block] at this | exact this) GW362.out)
       have hn363_1 : ad361.block ≠ gb362 := Nat.ne_of_lt (Nat.lt_of_lt_of_le (by have := World.block_lt_of_cell? _ _ hx363_0; first | rwa [add_block] at this | exact this) GW362.out)
       have hn363_2 : ad361.block ≠ gb362 := Nat.ne_of_lt (Nat.lt_of_lt_of_le (by have := World.block_lt_of_cell? _ _ hx363_0; first | rwa [add_block] at this | exact this) GW362.out)
       have hn363_3 : ad361.block ≠ gb362 := Nat.ne_of_lt (Nat.lt_of_lt_of_le (by have := World.block_lt_of_cell? _ _ hx363_0; first | rwa [add_block] at this | exact this) GW362.out)
       have hn363_4 : ad361.block ≠ gb362 := Nat.ne_of_lt (Nat.lt_of_lt_of_le (by have := World.block_lt_of_cell? _ _ hx363_0; first | rwa [add_block] at this | exact this) GW362.out)
       have hn363_5 : ad361.block ≠ gb362 := Nat.ne_of_lt (Nat.lt_of_lt_of_le (by have := World.block_lt_of_cell? _ _ hx363_0; first | rwa [add_block] at this | exact this) GW362.out)
       have hn363_6 : ad361.block ≠ gb362 := Nat.ne_of_lt (Nat.lt_of_lt_of_le (by have := World.block_lt_of_cell? _ _ hx363_0; first | rwa [add_block] at this | exact this) GW362.out)
       have hn363_7 : ad361.block ≠ gb362 := Nat.ne_of_lt (Nat.lt_of_lt_of_le (by have := World.block_lt_of_cell? _ _ hx363_0; first | rwa [add_block] at this | exact this) GW362.out)
       replace hx363_0 := pw_cell_below HB.out hx363_0
       replace hx363_1 := pw_cell_below HB.out hx363_1
       replace hx363_2 := pw_cell_below HB.out hx363_2
       replace hx363_3 := pw_cell_below HB.out hx363_3
       replace hx363_4 := pw_cell_below HB.out hx363_4
       replace hx363_5 := pw_cell_below HB.out hx363_5
       replace hx363_6 := pw_cell_below HB.out hx363_6
       replace hx363_7 := pw_cell_below HB.out hx363_7
       have HR363_4 := Aside0.mk hi363_4
       have HC363_4 := Aside0.mk hl363_4
       clear hi363_4 hl363_4
       have HR363_5 := Aside0.mk hi363_5
       have HC363_5 := Aside0.mk hl363_5
       clear hi363_5 hl363_5
       have HR363_6 := Aside0.mk hi363_6
       have HC363_6 := Aside0.mk hl363_6
       clear hi363_6 hl363_6
       replace hx363_0 := cf8 (.int .i64 ((rd_T28 l0 x7_1).f0)) (.string ((rd_T28 l0 x7_1).f1)) (.string ((rd_T28 l0 x7_1).f2)) (.string ((rd_T28 l0 x7_1).f3)) (.slice A361_4 ((rd_T28 l0 x7_1).f4).length c361_4) (.slice A361_5 ((rd_T28 l0 x7_1).f5).length c361_5) (.slice A361_6 ((rd_T28 l0 x7_1).f6).length c361_6) (.string ((rd_T28 l0 x7_1).f7)) (by first | (rw [add_block]; exact hn363_0) | (show (Addr.add _ _).block ≠ _; rw [add_block]; exact hn363_0) | exact hn363_0) hx363_0
       replace hx363_1 := cf8 (.int .i64 ((rd_T28 l0 x7_1).f0)) (.string ((rd_T28 l0 x7_1).f1)) (.string ((rd_T28 l0 x7_1).f2)) (.string ((rd_T28 l0 x7_1).f3)) (.slice A361_4 ((rd_T28 l0 x7_1).f4).length c361_4) (.slice A361_5 ((rd_T28 l0 x7_1).f5).length c361_5) (.slice A361_6 ((rd_T28 l0 x7_1).f6).length c361_6) (.string ((rd_T28 l0 x7_1).f7)) (by first | (rw [add_block]; exact hn363_0) | (show (Addr.add _ _).block ≠ _; rw [add_block]; exact hn363_0) | exact hn363_0) hx363_1
       replace hx363_2 := cf8 (.int .i64 ((rd_T28 l0 x7_1).f0)) (.string ((rd_T28 l0 x7_1).f1)) (.string ((rd_T28 l0 x7_1).f2)) (.string ((rd_T28 l0 x7_1).f3)) (.slice A361_4 ((rd_T28 l0 x7_1).f4).length c361_4) (.slice A361_5 ((rd_T28 l0 x7_1).f5).length c361_5) (.slice A361_6 ((rd_T28 l0 x7_1).f6).length c361_6) (.string ((rd_T28 l0 x7_1).f7)) (by first | (rw [add_block]; exact hn363_0) | (show (Addr.add _ _).block ≠ _; rw [add_block]; exact hn363_0) | exact hn363_0) hx363_2
       replace hx363_3 := cf8 (.int .i64 ((rd_T28 l0 x7_1).f0)) (.string ((rd_T28 l0 x7_1).f1)) (.string ((rd_T28 l0 x7_1).f2)) (.string ((rd_T28 l0 x7_1).f3)) (.slice A361_4 ((rd_T28 l0 x7_1).f4).length c361_4) (.slice A361_5 ((rd_T28 l0 x7_1).f5).length c361_5) (.slice A361_6 ((rd_T28 l0 x7_1).f6).length c361_6) (.string ((rd_T28 l0 x7_1).f7)) (by first | (rw [add_block]; exact hn363_0) | (show (Addr.add _ _).block ≠ _; rw [add_block]; exact hn363_0) | exact hn363_0) hx363_3
       replace hx363_4 := cf8 (.int .i64 ((rd_T28 l0 x7_1).f0)) (.string ((rd_T28 l0 x7_1).f1)) (.string ((rd_T28 l0 x7_1).f2)) (.string ((rd_T28 l0 x7_1).f3)) (.slice A361_4 ((rd_T28 l0 x7_1).f4).length c361_4) (.slice A361_5 ((rd_T28 l0 x7_1).f5).length c361_5) (.slice A361_6 ((rd_T28 l0 x7_1).f6).length c361_6) (.string ((rd_T28 l0 x7_1).f7)) (by first | (rw [add_block]; exact hn363_0) | (show (Addr.add _ _).block ≠ _; rw [add_block]; exact hn363_0) | exact hn363_0) hx363_4
       replace hx363_5 := cf8 (.int .i64 ((rd_T28 l0 x7_1).f0)) (.string ((rd_T28 l0 x7_1).f1)) (.string ((rd_T28 l0 x7_1).f2)) (.string ((rd_T28 l0 x7_1).f3)) (.slice A361_4 ((rd_T28 l0 x7_1).f4).length c361_4) (.slice A361_5 ((rd_T28 l0 x7_1).f5).length c361_5) (.slice A361_6 ((rd_T28 l0 x7_1).f6).length c361_6) (.string ((rd_T28 l0 x7_1).f7)) (by first | (rw [add_block]; exact hn363_0) | (show (Addr.add _ _).block ≠ _; rw [add_block]; exact hn363_0) | exact hn363_0) hx363_5
       replace hx363_6 := cf8 (.int .i64 ((rd_T28 l0 x7_1).f0)) (.string ((rd_T28 l0 x7_1).f1)) (.string ((rd_T28 l0 x7_1).f2)) (.string ((rd_T28 l0 x7_1).f3)) (.slice A361_4 ((rd_T28 l0 x7_1).f4).length c361_4) (.slice A361_5 ((rd_T28 l0 x7_1).f5).length c361_5) (.slice A361_6 ((rd_T28 l0 x7_1).f6).length c361_6) (.string ((rd_T28 l0 x7_1).f7)) (by first | (rw [add_block]; exact hn363_0) | (show (Addr.add _ _).block ≠ _; rw [add_block]; exact hn363_0) | exact hn363_0) hx363_6
       replace hx363_7 := cf8 (.int .i64 ((rd_T28 l0 x7_1).f0)) (.string ((rd_T28 l0 x7_1).f1)) (.string ((rd_T28 l0 x7_1).f2)) (.string ((rd_T28 l0 x7_1).f3)) (.slice A361_4 ((rd_T28 l0 x7_1).f4).length c361_4) (.slice A361_5 ((rd_T28 l0 x7_1).f5).length c361_5) (.slice A361_6 ((rd_T28 l0 x7_1).f6).length c361_6) (.string ((rd_T28 l0 x7_1).f7)) (by first | (rw [add_block]; exact hn363_0) | (show (Addr.add _ _).block ≠ _; rw [add_block]; exact hn363_0) | exact hn363_0) hx363_7
       clear hn363_0
       clear hn363_1
       clear hn363_2
       clear hn363_3
       clear hn363_4
       clear hn363_5
       clear hn363_6
       clear hn363_7
       replace p363 := eq_true p363
       replace q363 := eq_true q363
       go_wp2
       go_ret
       exact ⟨by first | rfl | (simp [errW_none, errW_some] <;> rfl) | (simp only [← hji9]; first | rfl | (simp [errW_none, errW_some] <;> rfl)) | (simp [*, errW_none, errW_some] <;> rfl), hB⟩
      ·rw [if_neg c12] at H
       obtain ⟨c12b0, c12b1⟩ := eqF c12
       have H' := Aside0.mk H
       clear H
       obtain ⟨hcz14_0, hcz14_1, hcz14_2, hcz14_3, hcz14_4, hcz14_5, hcz14_6, hcz14_7⟩ := bc8 BK362.out
       obtain ⟨hfz14_0, hfz14_1, hfz14_2, hfz14_3, hfz14_4, hfz14_5, hfz14_6, hfz14_7⟩ := bf8 BK362.out
       have p363 : 0 ≤ ((ji9) : Int) := odt
       have q363 : (ji9) < (l0.length : Int) := odt
       obtain ⟨ad363, A363_4, c363_4, A363_5, c363_5, A363_6, c363_6, e363, hx363_0, hx363_1, hx363_2, hx363_3, hx363_4, hx363_5, hx363_6, hx363_7, hl363_4, hi363_4, hl363_5, hi363_5, hl363_6, hi363_6⟩ := at_T28 HR0.out (ji9) p363 q363
       obtain rfl : ad361 = ad363 := (by injection e363)
       have hn363_0 : ad361.block ≠ gb362 := Nat.ne_of_lt (Nat.lt_of_lt_of_le (by have := World.block_lt_of_cell? _ _ hx363_0; first | rwa [add_block] at this | exact this) GW362.out)
       have hn363_1 : ad361.block ≠ gb362 := Nat.ne_of_lt (Nat.lt_of_lt_of_le (by have := World.block_lt_of_cell? _ _ hx363_0; first | rwa [add_block] at this | exact this) GW362.out)
       have hn363_2 : ad361.block ≠ gb362 := Nat.ne_of_lt (Nat.lt_of_lt_of_le (by have := World.block_lt_of_cell? _ _ hx363_0; first | rwa [add_block] at this | exact this) GW362.out)
       have hn363_3 : ad361.block ≠ gb362 := Nat.ne_of_lt (Nat.lt_of_lt_of_le (by have := World.block_lt_of_cell? _ _ hx363_0; first | rwa [add_block] at this | exact this) GW362.out)
       have hn363_4 : ad361.block ≠ gb362 := Nat.ne_of_lt (Nat.lt_of_lt_of_le (by have := World.block_lt_of_cell? _ _ hx363_0; first | rwa [add_block] at this | exact this) GW362.out)
       have hn363_5 : ad361.block ≠ gb362 := Nat.ne_of_lt (Nat.lt_of_lt_of_le (by have := World.block_lt_of_cell? _ _ hx363_0; first | rwa [add_block] at this | exact this) GW362.out)
       have hn363_6 : ad361.block ≠ gb362 := Nat.ne_of_lt (Nat.lt_of_lt_of_le (by have := World.block_lt_of_cell? _ _ hx363_0; first | rwa [add_block] at this | exact this) GW362.out)
       have hn363_7 : ad361.block ≠ gb362 := Nat.ne_of_lt (Nat.lt_of_lt_of_le (by have := World.block_lt_of_cell? _ _ hx363_0; first | rwa [add_block] at this | exact this) GW362.out)
       replace hx363_0 := pw_cell_below HB.out hx363_0
       replace hx363_1 := pw_cell_below HB.out hx363_1
       replace hx363_2 := pw_cell_below HB.out hx363_2
       replace hx363_3 := pw_cell_below HB.out hx363_3
       replace hx363_4 := pw_cell_below HB.out hx363_4
       replace hx363_5 := pw_cell_below HB.out hx363_5
       replace hx363_6 := pw_cell_below HB.out hx363_6
       replace hx363_7 := pw_cell_below HB.out hx363_7
       have HR363_4 := Aside0.mk hi363_4
       have HC363_4 := Aside0.mk hl363_4
       clear hi363_4 hl363_4
       have HR363_5 := Aside0.mk hi363_5
       have HC363_5 := Aside0.mk hl363_5
       clear hi363_5 hl363_5
       have HR363_6 := Aside0.mk hi363_6
       have HC363_6 := Aside0.mk hl363_6
       clear hi363_6 hl363_6
       replace hx363_0 := cf8 (.int .i64 ((rd_T28 l0 x7_1).f0)) (.string ((rd_T28 l0 x7_1).f1)) (.string ((rd_T28 l0 x7_1).f2)) (.string ((rd_T28 l0 x7_1).f3)) (.slice A361_4 ((rd_T28 l0 x7_1).f4).length c361_4) (.slice A361_5 ((rd_T28 l0 x7_1).f5).length c361_5) (.slice A361_6 ((rd_T28 l0 x7_1).f6).length c361_6) (.string ((rd_T28 l0 x7_1).f7)) (by first | (rw [add_block]; exact hn363_0) | (show (Addr.add _ _).block ≠ _; rw [add_block]; exact hn363_0) | exact hn363_0) hx363_0
       replace hx363_1 := cf8 (.int .i64 ((rd_T28 l0 x7_1).f0)) (.string ((rd_T28 l0 x7_1).f1)) (.string ((rd_T28 l0 x7_1).f2)) (.string ((rd_T28 l0 x7_1).f3)) (.slice A361_4 ((rd_T28 l0 x7_1).f4).length c361_4) (.slice A361_5 ((rd_T28 l0 x7_1).f5).length c361_5) (.slice A361_6 ((rd_T28 l0 x7_1).f6).length c361_6) (.string ((rd_T28 l0 x7_1).f7)) (by first | (rw [add_block]; exact hn363_0) | (show (Addr.add _ _).block ≠ _; rw [add_block]; exact hn363_0) | exact hn363_0) hx363_1
       replace hx363_2 := cf8 (.int .i64 ((rd_T28 l0 x7_1).f0)) (.string ((rd_T28 l0 x7_1).f1)) (.string ((rd_T28 l0 x7_1).f2)) (.string ((rd_T28 l0 x7_1).f3)) (.slice A361_4 ((rd_T28 l0 x7_1).f4).length c361_4) (.slice A361_5 ((rd_T28 l0 x7_1).f5).length c361_5) (.slice A361_6 ((rd_T28 l0 x7_1).f6).length c361_6) (.string ((rd_T28 l0 x7_1).f7)) (by first | (rw [add_block]; exact hn363_0) | (show (Addr.add _ _).block ≠ _; rw [add_block]; exact hn363_0) | exact hn363_0) hx363_2
       replace hx363_3 := cf8 (.int .i64 ((rd_T28 l0 x7_1).f0)) (.string ((rd_T28 l0 x7_1).f1)) (.string ((rd_T28 l0 x7_1).f2)) (.string ((rd_T28 l0 x7_1).f3)) (.slice A361_4 ((rd_T28 l0 x7_1).f4).length c361_4) (.slice A361_5 ((rd_T28 l0 x7_1).f5).length c361_5) (.slice A361_6 ((rd_T28 l0 x7_1).f6).length c361_6) (.string ((rd_T28 l0 x7_1).f7)) (by first | (rw [add_block]; exact hn363_0) | (show (Addr.add _ _).block ≠ _; rw [add_block]; exact hn363_0) | exact hn363_0) hx363_3
       replace hx363_4 := cf8 (.int .i64 ((rd_T28 l0 x7_1).f0)) (.string ((rd_T28 l0 x7_1).f1)) (.string ((rd_T28 l0 x7_1).f2)) (.string ((rd_T28 l0 x7_1).f3)) (.slice A361_4 ((rd_T28 l0 x7_1).f4).length c361_4) (.slice A361_5 ((rd_T28 l0 x7_1).f5).length c361_5) (.slice A361_6 ((rd_T28 l0 x7_1).f6).length c361_6) (.string ((rd_T28 l0 x7_1).f7)) (by first | (rw [add_block]; exact hn363_0) | (show (Addr.add _ _).block ≠ _; rw [add_block]; exact hn363_0) | exact hn363_0) hx363_4
       replace hx363_5 := cf8 (.int .i64 ((rd_T28 l0 x7_1).f0)) (.string ((rd_T28 l0 x7_1).f1)) (.string ((rd_T28 l0 x7_1).f2)) (.string ((rd_T28 l0 x7_1).f3)) (.slice A361_4 ((rd_T28 l0 x7_1).f4).length c361_4) (.slice A361_5 ((rd_T28 l0 x7_1).f5).length c361_5) (.slice A361_6 ((rd_T28 l0 x7_1).f6).length c361_6) (.string ((rd_T28 l0 x7_1).f7)) (by first | (rw [add_block]; exact hn363_0) | (show (Addr.add _ _).block ≠ _; rw [add_block]; exact hn363_0) | exact hn363_0) hx363_5
       replace hx363_6 := cf8 (.int .i64 ((rd_T28 l0 x7_1).f0)) (.string ((rd_T28 l0 x7_1).f1)) (.string ((rd_T28 l0 x7_1).f2)) (.string ((rd_T28 l0 x7_1).f3)) (.slice A361_4 ((rd_T28 l0 x7_1).f4).length c361_4) (.slice A361_5 ((rd_T28 l0 x7_1).f5).length c361_5) (.slice A361_6 ((rd_T28 l0 x7_1).f6).length c361_6) (.string ((rd_T28 l0 x7_1).f7)) (by first | (rw [add_block]; exact hn363_0) | (show (Addr.add _ _).block ≠ _; rw [add_block]; exact hn363_0) | exact hn363_0) hx363_6
       replace hx363_7 := cf8 (.int .i64 ((rd_T28 l0 x7_1).f0)) (.string ((rd_T28 l0 x7_1).f1)) (.string ((rd_T28 l0 x7_1).f2)) (.string ((rd_T28 l0 x7_1).f3)) (.slice A361_4 ((rd_T28 l0 x7_1).f4).length c361_4) (.slice A361_5 ((rd_T28 l0 x7_1).f5).length c361_5) (.slice A361_6 ((rd_T28 l0 x7_1).f6).length c361_6) (.string ((rd_T28 l0 x7_1).f7)) (by first | (rw [add_block]; exact hn363_0) | (show (Addr.add _ _).block ≠ _; rw [add_block]; exact hn363_0) | exact hn363_0) hx363_7
       clear hn363_0
       clear hn363_1
       clear hn363_2
       clear hn363_3
       clear hn363_4
       clear hn363_5
       clear hn363_6
       clear hn363_7
       replace p363 := eq_true p363
       replace q363 := eq_true q363
       go_wp2
       go_roundg k1
       case measure => have := HK1.out; omega
       case rel => exact ⟨(wrap64 (x7_1 + 1)), rG, H', ⟨by have := HK1.out; omega⟩, ⟨hB⟩⟩
     ·rw [if_neg c8] at H
      obtain ⟨c8b0, c8b1⟩ := eqF c8
      have H' := Aside0.mk H
      clear H
      obtain ⟨hcz15_0, hcz15_1, hcz15_2, hcz15_3, hcz15_4, hcz15_5, hcz15_6, hcz15_7⟩ := bc8 BK362.out
      obtain ⟨hfz15_0, hfz15_1, hfz15_2, hfz15_3, hfz15_4, hfz15_5, hfz15_6, hfz15_7⟩ := bf8 BK362.out
      go_wp2
      go_roundg k1
      case measure => have := HK1.out; omega
      case rel => exact ⟨(wrap64 (x7_1 + 1)), rG, H', ⟨by have := HK1.out; omega⟩, ⟨hB⟩⟩
    ·rw [if_neg c7] at H
     have c7b0 : decide (0 < x7_1) = false := decide_eq_false c7
     clear c7
     have H' := Aside0.mk H
     clear H
     go_wp2
     go_roundg k1
     case measure => have := HK1.out; omega
     case rel => exact ⟨(wrap64 (x7_1 + 1)), rG, H', ⟨by have := HK1.out; omega⟩, ⟨hB⟩⟩
   ·rw [if_neg c2] at H
    have c2b0 : decide (x7_1 < (l0.length : Int)) = false := decide_eq_false c2
    clear c2
    obtain rfl := Option.some.inj H
    go_wp2
    go_ret
    exact ⟨rE, hB⟩

/-! ### impl_kidsOk: function 45 -/
def impl_kidsOk.and2 (x y : Option Bool) : Option Bool := x.bind fun t => if t = true then y else some false
theorem impl_kidsOk.and2_elim {x y : Option Bool} {r : Bool} (h : impl_kidsOk.and2 x y = some r) : ∃ t, x = some t ∧ (t = true → y = some r) ∧ (t = false → r = false) := by
  obtain ⟨t, ht, h⟩ := Option.bind_eq_some_iff.1 h
  refine ⟨t, ht, ?_, ?_⟩ <;> rintro rfl <;> simp at h <;> simp [h]
theorem impl_kidsOk.and2_mono {x y x' y' : Option Bool} (hx : LeO x x') (hy : LeO y y') : LeO (impl_kidsOk.and2 x y) (impl_kidsOk.and2 x' y') := LeO.bind hx (fun _ => LeO.ite hy (LeO.refl _))
def impl_kidsOk.kids (G : Int → ByteArray → ByteArray → ByteArray → List S73 → List S68 → List S28 → ByteArray → Int → Option Bool) (k : Nat) (l : List S28) (d : Int) : Option Bool :=
  impl_kidsOk.and2 (impl_noTwoTexts.f k l) ((impl_Node_52.any (fun x => (G x.f0 x.f1 x.f2 x.f3 x.f4 x.f5 x.f6 x.f7 d).map not) l).map not)
def impl_kidsOk.part : Nat → Int → ByteArray → ByteArray → ByteArray → List S73 → List S68 → List S28 → ByteArray → Int → Option Bool
  | 0, _, _, _, _, _, _, _, _, _ => none
  | k + 1, a0_0, a0_1, a0_2, a0_3, l0_4, l0_5, l0_6, a0_7, a1 =>
    if a0_0 = 1 then (if 7 ≤ a1 then some false else if a0_7.toList = [] then impl_kidsOk.and2 (impl_preOk.f k a0_1) (impl_kidsOk.and2 (impl_uriOk.f k a0_3 a0_1) (impl_kidsOk.and2 (impl_PlainOk.f k a0_2) (impl_kidsOk.and2 (impl_DeclsOk.f k l0_4) (impl_kidsOk.and2 (impl_attrsOk.f k l0_5) (impl_kidsOk.kids (impl_kidsOk.part k) k l0_6 (wrap64 (a1 + 1))))))) else some false)
    else impl_leafOk.f k a0_0 a0_1 a0_2 a0_3 l0_4 l0_5 l0_6 a0_7
theorem impl_kidsOk.kids_mono {G G' : Int → ByteArray → ByteArray → ByteArray → List S73 → List S68 → List S28 → ByteArray → Int → Option Bool} (hG : ∀ a b c d e f g h i, LeO (G a b c d e f g h i) (G' a b c d e f g h i)) (k : Nat) (l : List S28) (d : Int) : LeO (impl_kidsOk.kids G k l d) (impl_kidsOk.kids G' (k + 1) l d) :=
  impl_kidsOk.and2_mono (impl_noTwoTexts.mono l k) (LeO.map _ (impl_Node_52.mono _ _ (fun x => LeO.map _ (hG x.f0 x.f1 x.f2 x.f3 x.f4 x.f5 x.f6 x.f7 d)) _))
theorem impl_kidsOk.part_mono : ∀ k a0_0 a0_1 a0_2 a0_3 l0_4 l0_5 l0_6 a0_7 a1, LeO (impl_kidsOk.part k a0_0 a0_1 a0_2 a0_3 l0_4 l0_5 l0_6 a0_7 a1) (impl_kidsOk.part (k + 1) a0_0 a0_1 a0_2 a0_3 l0_4 l0_5 l0_6 a0_7 a1)
  | 0, _, _, _, _, _, _, _, _, _ => fun r h => by simp [impl_kidsOk.part] at h
  | k + 1, a0_0, a0_1, a0_2, a0_3, l0_4, l0_5, l0_6, a0_7, a1 => by
    simp only [impl_kidsOk.part]
    exact LeO.ite (LeO.ite (LeO.refl _) (LeO.ite (impl_kidsOk.and2_mono (impl_preOk.mono _ _) (impl_kidsOk.and2_mono (impl_uriOk.mono _ _ _) (impl_kidsOk.and2_mono (impl_PlainOk.mono _ _) (impl_kidsOk.and2_mono (impl_DeclsOk.mono _ _) (impl_kidsOk.and2_mono (impl_attrsOk.mono _ _) (impl_kidsOk.kids_mono (impl_kidsOk.part_mono k) k l0_6 _)))))) (LeO.refl _))) (impl_leafOk.mono _ _ _ _ _ _ _ _ _)
set_option maxRecDepth 100000 in
set_option maxHeartbeats 1000000 in
theorem impl_kidsOk.lit (b : Bool) (x : S28) (A4 A5 A6 : Option Addr) (c4 c5 c6 : Nat) (d : Int) (B : Nat) (W : World) (hc : W.cell? ⟨B, 0, none⟩ = some (.int .i64 d))
    (hC : ∀ W1, Below W.heap.size W W1 → Calls Tryz.prog 43 #[.agg #[.int .i64 x.f0, .string x.f1, .string x.f2, .string x.f3, .slice A4 x.f4.length c4, .slice A5 x.f5.length c5, .slice A6 x.f6.length c6, .string x.f7], .int .i64 d] W1 fun e w' => e = .returned (.bool b) ∧ Below W1.heap.size W1 w') :
    Calls Tryz.prog 85 #[.agg #[.int .i64 x.f0, .string x.f1, .string x.f2, .string x.f3, .slice A4 x.f4.length c4, .slice A5 x.f5.length c5, .slice A6 x.f6.length c6, .string x.f7], .pointer (some ⟨B, 0, none⟩)] W
      fun e w' => e = .returned (.bool (!b)) ∧ Below W.heap.size W w' := by
  have hu := Tryz.underlying28
  have hlt : B < W.heap.size := World.block_lt_of_cell? W _ hc
  have HC := Aside0.mk hC
  clear hC
  generalize x.f4.length = n4 at HC ⊢
  generalize x.f5.length = n5 at HC ⊢
  generalize x.f6.length = n6 at HC ⊢
  go_enter Tryz.func85, Tryz.ntmps85
  go_wp2_with (go_at_call 43; refine (HC.out _ (below_alloc (Below.refl _ _) _)).mono ?_; rintro e w' ⟨rfl, hb⟩)
  go_ret
  exact ⟨rfl, below_then (below_alloc (Below.refl _ _) _) (by simp) hb⟩
set_option maxRecDepth 100000 in
set_option maxHeartbeats 4000000 in
theorem impl_kidsOk.callsF (G : Int → ByteArray → ByteArray → ByteArray → List S73 → List S68 → List S28 → ByteArray → Int → Option Bool)
    (hG : ∀ (a0_0 : Int) (a0_1 a0_2 a0_3 : ByteArray) (A0_4 : Option Addr) (c0_4 : Nat) (l0_4 : List S73) (A0_5 : Option Addr) (c0_5 : Nat) (l0_5 : List S68) (A0_6 : Option Addr) (c0_6 : Nat) (l0_6 : List S28) (a0_7 : ByteArray) (a1 : Int) (r : Bool) (w : World) (hr0_4 : Kd.C k73 w A0_4 l0_4.length l0_4) (hc0_4 : l0_4.length ≤ c0_4) (hr0_5 : Kd.C k68 w A0_5 l0_5.length l0_5) (hc0_5 : l0_5.length ≤ c0_5) (hr0_6 : Kd.C k28 w A0_6 l0_6.length l0_6) (hc0_6 : l0_6.length ≤ c0_6) (hTab : Tabs w) (h : G a0_0 a0_1 a0_2 a0_3 l0_4 l0_5 l0_6 a0_7 a1 = some r),
      Calls Tryz.prog 43 #[.agg #[.int .i64 a0_0, .string a0_1, .string a0_2, .string a0_3, .slice A0_4 l0_4.length c0_4, .slice A0_5 l0_5.length c0_5, .slice A0_6 l0_6.length c0_6, .string a0_7], .int .i64 a1] w fun e w' => e = .returned (.bool r) ∧ Below w.heap.size w w')
    (k : Nat) (a0_0 : Int) (a0_1 a0_2 a0_3 : ByteArray) (A0_4 : Option Addr) (n0_4 c0_4 : Nat) (A0_5 : Option Addr) (n0_5 c0_5 : Nat) (A0_6 : Option Addr) (c0_6 : Nat) (l0_6 : List S28) (a0_7 : ByteArray) (a1 : Int) (r : Bool) (w : World) (hr0_6 : Kd.C k28 w A0_6 l0_6.length l0_6) (hc0_6 : l0_6.length ≤ c0_6) (hTab : Tabs w) (h : impl_kidsOk.kids G k l0_6 a1 = some r) :
    Calls Tryz.prog 45 #[.agg #[.int .i64 a0_0, .string a0_1, .string a0_2, .string a0_3, .slice A0_4 n0_4 c0_4, .slice A0_5 n0_5 c0_5, .slice A0_6 l0_6.length c0_6, .string a0_7], .int .i64 a1] w fun e w' => e = .returned (.bool r) ∧ Below w.heap.size w w' := by
  obtain ⟨t, ht, hT, hFl⟩ := impl_kidsOk.and2_elim h
  have hA := fun (W : World) (hW : Below w.heap.size w W) => impl_noTwoTexts.calls k A0_6 c0_6 l0_6 t W (Kd.C_below hr0_6 hW) hc0_6 ht
  have hu := Tryz.underlying28
  have HA := Aside0.mk hA
  cases t with
  | false =>
    have hr := hFl rfl
    subst hr
    clear hT hFl hA ht hr0_6 hc0_6 hG h
    go_enter Tryz.func45, Tryz.ntmps45
    go_wp2_with (go_at_call 84; refine (HA.out _ ?a1).mono ?_; (case a1 => exact below_alloc (below_alloc (Below.refl _ _) _) _); rintro e w' ⟨rfl, hb⟩; have hB := below_then (below_alloc (below_alloc (Below.refl w.heap.size w) _) _) (by simp; omega) hb)
    go_ret
    exact ⟨rfl, hB⟩
  | true =>
    obtain ⟨q, hq, rfl⟩ := Option.map_eq_some_iff.1 (hT rfl)
    have hN := fun (W : World) (B : Nat) (hW : Below w.heap.size w W) (hc : W.cell? ⟨B, 0, none⟩ = some (.int .i64 a1)) =>
      impl_Node_52.calls (fun x => (G x.f0 x.f1 x.f2 x.f3 x.f4 x.f5 x.f6 x.f7 a1).map not) 85 #[.pointer (some ⟨B, 0, none⟩)] (enters_of Tryz.func85 (by kernel_rfl) rfl) A0_6 c0_6 l0_6 q W
        (fun W2 x v b hx hp hv hb2 => by
          obtain ⟨b', hp', rfl⟩ := Option.map_eq_some_iff.1 hp
          obtain ⟨E4, e4, E5, e5, E6, e6, rfl, q4, r4, q5, r5, q6, r6⟩ := hv
          exact impl_kidsOk.lit b' x _ _ _ _ _ _ a1 B W2 (pw_cell_below hb2 hc) (fun W3 hW3 => hG _ _ _ _ _ _ _ _ _ _ _ _ _ _ a1 b' W3 (Kd.C_below r4 hW3) q4 (Kd.C_below r5 hW3) q5 (Kd.C_below r6 hW3) q6 (hTab.below (hW.trans (((hb2.mono hW.size)).trans (hW3.mono (Nat.le_trans hW.size hb2.size))))) hp')) (Kd.C_below hr0_6 hW) hq
    have HN := Aside0.mk hN
    clear hT hFl hA hN ht hr0_6 hc0_6 hG h hq
    go_enter Tryz.func45, Tryz.ntmps45
    go_wp2_with (first | (go_at_call 84; refine (HA.out _ ?a1).mono ?_; (case a1 => exact below_alloc (below_alloc (Below.refl _ _) _) _); rintro e w' ⟨rfl, hb⟩; have hB := below_then (below_alloc (below_alloc (Below.refl w.heap.size w) _) _) (by simp; omega) hb; have HB := Aside0.mk hB; have hk0 := pw_cell_below hb (show World.cell? ((w.alloc (.cells #[.int .i64 a0_0, .string a0_1, .string a0_2, .string a0_3, .slice A0_4 n0_4 c0_4, .slice A0_5 n0_5 c0_5, .slice A0_6 l0_6.length c0_6, .string a0_7] 28)).alloc (.cells #[.int .i64 a1] 3)) ⟨w.heap.size, 6, none⟩ = some (.slice A0_6 l0_6.length c0_6) from by rw [World.cell?_alloc_past _ _ _ (by simp), World.cell?_alloc_at _ _ _ _ rfl]; rfl); have hk1 := pw_cell_below hb (show World.cell? ((w.alloc (.cells #[.int .i64 a0_0, .string a0_1, .string a0_2, .string a0_3, .slice A0_4 n0_4 c0_4, .slice A0_5 n0_5 c0_5, .slice A0_6 l0_6.length c0_6, .string a0_7] 28)).alloc (.cells #[.int .i64 a1] 3)) ⟨w.heap.size + 1, 0, none⟩ = some (.int .i64 a1) from by rw [World.cell?_alloc_at _ _ _ _ (by simp)]; rfl)) | (go_at_call 52; refine (HN.out _ _ HB.out hk1).mono ?_; rintro e w2 ⟨rfl, hb2⟩))
    go_ret
    exact ⟨rfl, HB.out.trans (hb2.mono HB.out.size)⟩
set_option maxRecDepth 100000 in
set_option maxHeartbeats 4000000 in
theorem impl_kidsOk.part_calls (k : Nat) : ∀ (a0_0 : Int) (a0_1 a0_2 a0_3 : ByteArray) (A0_4 : Option Addr) (c0_4 : Nat) (l0_4 : List S73) (A0_5 : Option Addr) (c0_5 : Nat) (l0_5 : List S68) (A0_6 : Option Addr) (c0_6 : Nat) (l0_6 : List S28) (a0_7 : ByteArray) (a1 : Int) (r : Bool) (w : World) (hr0_4 : Kd.C k73 w A0_4 l0_4.length l0_4) (hc0_4 : l0_4.length ≤ c0_4) (hr0_5 : Kd.C k68 w A0_5 l0_5.length l0_5) (hc0_5 : l0_5.length ≤ c0_5) (hr0_6 : Kd.C k28 w A0_6 l0_6.length l0_6) (hc0_6 : l0_6.length ≤ c0_6) (hTab : Tabs w) (h : impl_kidsOk.part k a0_0 a0_1 a0_2 a0_3 l0_4 l0_5 l0_6 a0_7 a1 = some r),
    Calls Tryz.prog 43 #[.agg #[.int .i64 a0_0, .string a0_1, .string a0_2, .string a0_3, .slice A0_4 l0_4.length c0_4, .slice A0_5 l0_5.length c0_5, .slice A0_6 l0_6.length c0_6, .string a0_7], .int .i64 a1] w fun e w' => e = .returned (.bool r) ∧ Below w.heap.size w w' := by
  induction k with
  | zero => intro a0_0 a0_1 a0_2 a0_3 A0_4 c0_4 l0_4 A0_5 c0_5 l0_5 A0_6 c0_6 l0_6 a0_7 a1 r w hr0_4 hc0_4 hr0_5 hc0_5 hr0_6 hc0_6 hTab h; exact absurd h (by simp [impl_kidsOk.part])
  | succ k ih =>
  intro a0_0 a0_1 a0_2 a0_3 A0_4 c0_4 l0_4 A0_5 c0_5 l0_5 A0_6 c0_6 l0_6 a0_7 a1 r w hr0_4 hc0_4 hr0_5 hc0_5 hr0_6 hc0_6 hTab h
  simp only [impl_kidsOk.part] at h
  have hu := Tryz.underlying28
  have HR := Aside0.mk (And.intro hr0_4 (And.intro hr0_5 hr0_6))
  have HQ := Aside0.mk (And.intro hc0_4 (And.intro hc0_5 hc0_6))
  have HT := Aside0.mk hTab
  have IH := Aside0.mk (impl_kidsOk.callsF (impl_kidsOk.part k) ih k)
  clear hr0_4 hc0_4 hr0_5 hc0_5 hr0_6 hc0_6 hTab ih
  generalize hn4 : l0_4.length = n4 at HQ ⊢
  generalize hn5 : l0_5.length = n5 at HQ ⊢
  have HN := Aside0.mk (And.intro hn4 hn5)
  clear hn4 hn5
  by_cases c1 : a0_0 = 1
  · rw [if_pos c1] at h
    subst c1
    by_cases c2 : 7 ≤ a1
    · rw [if_pos c2] at h
      cases h
      have c2b := decide_eq_true c2
      clear HR HQ HT IH HN
      go_enter Tryz.func43, Tryz.ntmps43
      go_wp2
      go_ret
      exact ⟨rfl, below_alloc (Below.refl _ _) _⟩
    · rw [if_neg c2] at h
      have c2b := decide_eq_false c2
      by_cases c3 : a0_7.toList = []
      · rw [if_pos c3] at h
        have c3b : (a0_7.toList == ([] : List UInt8)) = true := beq_iff_eq.2 c3
        have c3c : (a0_7.toList != ([] : List UInt8)) = false := bne_eq_false_iff_eq.2 c3
        have H := Aside0.mk h
        clear h
        go_enter Tryz.func43, Tryz.ntmps43
        go_wp2_with (first
          | ((with_reducible refine gate_dst (N := 2) rfl ?_); refine box_event ?hg (N := 2) ?hd (cs := #[.int .i64 1, .string a0_1, .string a0_2, .string a0_3, .slice A0_4 n4 c0_4, .slice A0_5 n5 c0_5, .slice A0_6 l0_6.length c0_6, .string a0_7]) (t := 28) ?hr ?_; (case hd => rfl); (case hg => rfl); (case hr => first | (go_simp; done) | (go_simp; rfl)); intro gb hg w1 hbox hb; have HB := Aside0.mk (show Below w.heap.size w w1 from hb); have BK := Aside0.mk hbox; clear hb hbox hg; obtain ⟨hz0, hz1, hz2, hz3, hz4, hz5, hz6, hz7⟩ := bc8 BK.out)
          | (go_at_call 79; obtain ⟨t, ht, hT, hFl⟩ := impl_kidsOk.and2_elim H.out; refine (impl_preOk.calls k a0_1 t _ (HT.out.below HB.out) ht).mono ?_; rintro e w2 ⟨rfl, hb⟩; replace BK := Aside0.mk (blk_below BK.out hb); replace HB := Aside0.mk (below_step HB.out hb); clear hb ht; obtain ⟨hz0, hz1, hz2, hz3, hz4, hz5, hz6, hz7⟩ := bc8 BK.out; (rcases Bool.eq_false_or_eq_true t with q_ | q_ <;> subst q_ <;> first | (replace H := Aside0.mk (hT rfl); clear hT hFl) | (have hr_ := hFl rfl; subst hr_; clear hT hFl)))
          | (go_at_call 80; obtain ⟨t, ht, hT, hFl⟩ := impl_kidsOk.and2_elim H.out; refine (impl_uriOk.calls k a0_3 a0_1 t _ (HT.out.below HB.out) ht).mono ?_; rintro e w2 ⟨rfl, hb⟩; replace BK := Aside0.mk (blk_below BK.out hb); replace HB := Aside0.mk (below_step HB.out hb); clear hb ht; obtain ⟨hz0, hz1, hz2, hz3, hz4, hz5, hz6, hz7⟩ := bc8 BK.out; (rcases Bool.eq_false_or_eq_true t with q_ | q_ <;> subst q_ <;> first | (replace H := Aside0.mk (hT rfl); clear hT hFl) | (have hr_ := hFl rfl; subst hr_; clear hT hFl)))
          | (go_at_call 81; obtain ⟨t, ht, hT, hFl⟩ := impl_kidsOk.and2_elim H.out; refine (impl_PlainOk.calls k a0_2 t _ (HT.out.below HB.out) ht).mono ?_; rintro e w2 ⟨rfl, hb⟩; replace BK := Aside0.mk (blk_below BK.out hb); replace HB := Aside0.mk (below_step HB.out hb); clear hb ht; obtain ⟨hz0, hz1, hz2, hz3, hz4, hz5, hz6, hz7⟩ := bc8 BK.out; (rcases Bool.eq_false_or_eq_true t with q_ | q_ <;> subst q_ <;> first | (replace H := Aside0.mk (hT rfl); clear hT hFl) | (have hr_ := hFl rfl; subst hr_; clear hT hFl)))
          | (go_at_call 82; obtain ⟨t, ht, hT, hFl⟩ := impl_kidsOk.and2_elim H.out; have hX := impl_DeclsOk.calls k A0_4 c0_4 l0_4 t _ (Kd.C_below HR.out.1 HB.out) (HN.out.1 ▸ HQ.out.1) (HT.out.below HB.out) ht; rw [HN.out.1] at hX; refine hX.mono ?_; rintro e w2 ⟨rfl, hb⟩; replace BK := Aside0.mk (blk_below BK.out hb); replace HB := Aside0.mk (below_step HB.out hb); clear hb ht hX; obtain ⟨hz0, hz1, hz2, hz3, hz4, hz5, hz6, hz7⟩ := bc8 BK.out; (rcases Bool.eq_false_or_eq_true t with q_ | q_ <;> subst q_ <;> first | (replace H := Aside0.mk (hT rfl); clear hT hFl) | (have hr_ := hFl rfl; subst hr_; clear hT hFl)))
          | (go_at_call 83; obtain ⟨t, ht, hT, hFl⟩ := impl_kidsOk.and2_elim H.out; have hX := impl_attrsOk.calls k A0_5 c0_5 l0_5 t _ (Kd.C_below HR.out.2.1 HB.out) (HN.out.2 ▸ HQ.out.2.1) (HT.out.below HB.out) ht; rw [HN.out.2] at hX; refine hX.mono ?_; rintro e w2 ⟨rfl, hb⟩; replace BK := Aside0.mk (blk_below BK.out hb); replace HB := Aside0.mk (below_step HB.out hb); clear hb ht hX; obtain ⟨hz0, hz1, hz2, hz3, hz4, hz5, hz6, hz7⟩ := bc8 BK.out; (rcases Bool.eq_false_or_eq_true t with q_ | q_ <;> subst q_ <;> first | (replace H := Aside0.mk (hT rfl); clear hT hFl) | (have hr_ := hFl rfl; subst hr_; clear hT hFl)))
          | (go_at_call 45; refine (IH.out 1 a0_1 a0_2 a0_3 A0_4 n4 c0_4 A0_5 n5 c0_5 A0_6 c0_6 l0_6 a0_7 (wrap64 (a1 + 1)) r _ (Kd.C_below HR.out.2.2 HB.out) HQ.out.2.2 (HT.out.below HB.out) H.out).mono ?_; rintro e w2 ⟨rfl, hb⟩; replace HB := Aside0.mk (below_step HB.out hb)))
        all_goals
          go_ret
          exact ⟨rfl, HB.out⟩
      · rw [if_neg c3] at h
        cases h
        have c3b : (a0_7.toList == ([] : List UInt8)) = false := beq_eq_false_iff_ne.2 c3
        have c3c : (a0_7.toList != ([] : List UInt8)) = true := bne_iff_ne.2 c3
        clear HR HQ HT IH HN
        go_enter Tryz.func43, Tryz.ntmps43
        go_wp2
        go_ret
        exact ⟨rfl, below_alloc (Below.refl _ _) _⟩
  · rw [if_neg c1] at h
    have c1b : (a0_0 != 1) = true := bne_iff_ne.2 c1
    have c1c : (a0_0 == 1) = false := beq_eq_false_iff_ne.2 c1
    have hX := fun (W : World) (hW : Below w.heap.size w W) => impl_leafOk.calls k a0_0 a0_1 a0_2 a0_3 A0_4 c0_4 l0_4 A0_5 c0_5 l0_5 A0_6 c0_6 l0_6 a0_7 r W (Kd.C_below HR.out.1 hW) (HN.out.1 ▸ HQ.out.1) (Kd.C_below HR.out.2.1 hW) (HN.out.2 ▸ HQ.out.2.1) (Kd.C_below HR.out.2.2 hW) HQ.out.2.2 (HT.out.below hW) h
    rw [HN.out.1, HN.out.2] at hX
    have HX := Aside0.mk hX
    clear hX h IH
    go_enter Tryz.func43, Tryz.ntmps43
    go_wp2_with (go_at_call 78; refine (HX.out _ ?a1).mono ?_; (case a1 => exact below_alloc (Below.refl _ _) _); rintro e w' ⟨rfl, hb⟩; have hB := below_then (below_alloc (Below.refl w.heap.size w) _) (by simp) hb)
    go_ret
    exact ⟨rfl, hB⟩
def impl_kidsOk.f (k : Nat) (a0_0 : Int) (a0_1 a0_2 a0_3 : ByteArray) (l0_4 : List S73) (l0_5 : List S68) (l0_6 : List S28) (a0_7 : ByteArray) (a1 : Int) : Option Bool := impl_kidsOk.kids (impl_kidsOk.part k) k l0_6 a1
theorem impl_kidsOk.calls (k : Nat) (a0_0 : Int) (a0_1 : ByteArray) (a0_2 : ByteArray) (a0_3 : ByteArray) (A0_4 : Option Addr) (c0_4 : Nat) (l0_4 : List S73) (A0_5 : Option Addr) (c0_5 : Nat) (l0_5 : List S68) (A0_6 : Option Addr) (c0_6 : Nat) (l0_6 : List S28) (a0_7 : ByteArray) (a1 : Int) (r : Bool) (w : World) (_ : Kd.C k73 w A0_4 l0_4.length l0_4) (_ : l0_4.length ≤ c0_4) (_ : Kd.C k68 w A0_5 l0_5.length l0_5) (_ : l0_5.length ≤ c0_5) (hr0_6 : Kd.C k28 w A0_6 l0_6.length l0_6) (hc0_6 : l0_6.length ≤ c0_6) (hTab : Tabs w) (h : impl_kidsOk.f k a0_0 a0_1 a0_2 a0_3 l0_4 l0_5 l0_6 a0_7 a1 = some r) :
    Calls Tryz.prog 45 #[.agg #[.int .i64 a0_0, .string a0_1, .string a0_2, .string a0_3, .slice A0_4 l0_4.length c0_4, .slice A0_5 l0_5.length c0_5, .slice A0_6 l0_6.length c0_6, .string a0_7], .int .i64 a1] w fun e w' => e = .returned (.bool r) ∧ Below w.heap.size w w' :=
  impl_kidsOk.callsF (impl_kidsOk.part k) (impl_kidsOk.part_calls k) k a0_0 a0_1 a0_2 a0_3 A0_4 _ c0_4 A0_5 _ c0_5 A0_6 c0_6 l0_6 a0_7 a1 r w hr0_6 hc0_6 hTab h

end Go.Proofs.YtalionlkjdgciaaGreatDoor.PA
