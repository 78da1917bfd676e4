-- Written by the session's program hprint.py, over the kit's print program. Lean checks it.
import Derived.Laws.Cover1
import Derived.Test.YtalionlkjdgciaaGreatDoorPAx0
import Derived.Test.YtalionlkjdgciaaGreatDoorPAx13
import Derived.Test.YtalionlkjdgciaaGreatDoorPAx14
namespace Go.Proofs.YtalionlkjdgciaaGreatDoor.PA
open Go.RowKit Go.Proofs.YtalionlkjdgciaaGreatDoorW.PrintWords Go.Proofs.YtalionlkjdgciaaGreatDoorW.PrintLast Go.Proofs.YtalionlkjdgciaaGreatDoorW.PrintMore
attribute [local go_sem] max2_int min2_int max_two min_two max_three min_three max_four min_four   -- for this text's walks alone
set_option linter.unusedVariables false
set_option linter.unusedSimpArgs false
set_option maxHeartbeats 8000000
set_option maxRecDepth 100000

/-! ### impl_DeclsOk: function 82 -/
def impl_DeclsOk.l0 : Nat → List (S73) → List (S73) → Int → Int → Option (Bool)
 | 0, _, _, _, _ => none
 | k + 1, x0, x5, x6, x7 => if x7 < x6 then (if 0 ≤ x7 then (if x7 < (x5.length : Int) then ((impl_DeclOk.f k ((rd_T73 x5 x7).f0) ((rd_T73 x5 x7).f1)).bind fun t345 => (if t345 = true then (if x7 > 0 then (if 0 ≤ (wrap64 (x7 - 1)) then (if (wrap64 (x7 - 1)) < (x0.length : Int) then (if ((Op.bytesLess (((rd_T73 x0 (wrap64 (x7 - 1))).f0).toList) (((rd_T73 x5 x7).f0).toList)) = true) then (impl_DeclsOk.l0 k x0 x5 x6 (wrap64 (x7 + 1))) else (some false)) else (none)) else (none)) else (impl_DeclsOk.l0 k x0 x5 x6 (wrap64 (x7 + 1)))) else (some false))) else (none)) else (none)) else (some (decide ((x0.length : Int) ≤ 4)))
def impl_DeclsOk.f (k : Nat) (l0 : List (S73)) : Option (Bool) := impl_DeclsOk.l0 k l0 l0 (l0.length : Int) 0
theorem impl_DeclsOk.mono_l : ∀ k, (∀ y0 y1 y2 y3, LeO (impl_DeclsOk.l0 k y0 y1 y2 y3) (impl_DeclsOk.l0 (k + 1) y0 y1 y2 y3))
 | 0 => fun _ _ _ _ r h => by simp [impl_DeclsOk.l0] at h
 | k + 1 => by
  have ih0 := impl_DeclsOk.mono_l k
  ·intro y0 y1 y2 y3
   unfold impl_DeclsOk.l0
   repeat' first
   | (with_reducible exact ih0 _ _ _ _)
   | (with_reducible exact impl_DeclOk.mono _ _ _)
   | (with_reducible exact LeO.refl _)
   | (with_reducible exact LeO.none _)
   | (with_reducible refine LeO.ite ?_ ?_)
   | (with_reducible refine LeO.bind ?_ (fun _ => ?_))
   | exact ih0 _ _ _ _
   | exact impl_DeclOk.mono _ _ _
   | exact LeO.none _
   | refine LeO.ite ?_ ?_
   | refine LeO.bind ?_ (fun _ => ?_)
theorem impl_DeclsOk.mono : ∀ a0 k, LeO (impl_DeclsOk.f k a0) (impl_DeclsOk.f (k + 1) a0) := by
 intro a0 k
 have ih0 := impl_DeclsOk.mono_l k
 unfold impl_DeclsOk.f
 repeat' first
   | (with_reducible exact ih0 _ _ _ _)
   | (with_reducible exact impl_DeclOk.mono _ _ _)
   | (with_reducible exact LeO.refl _)
   | (with_reducible exact LeO.none _)
   | (with_reducible refine LeO.ite ?_ ?_)
   | (with_reducible refine LeO.bind ?_ (fun _ => ?_))
   | exact ih0 _ _ _ _
   | exact impl_DeclOk.mono _ _ _
   | exact LeO.none _
   | refine LeO.ite ?_ ?_
   | refine LeO.bind ?_ (fun _ => ?_)
def impl_DeclsOk.T4 : Bool × List (List Nat × List Nat) := (true, [([], []), ([0], [0]), ([1], [1]), ([2, 1], [2]), ([3], [3]), ([4, 3], [3, 4]), ([5, 3, 3], [3, 5]), ([6], [6]), ([6], [6]), ([8, 6], [6, 8]), ([7, 9, 6], [6, 7, 9]), ([10, 6], [6, 10]), ([11, 6], [6, 11]), ([6], [6]), ([13, 6], [6, 13]), ([12, 14, 6], [6, 12, 14]), ([6, 15, 3], [3, 6, 15]), ([3, 16], [3, 16])])
def impl_DeclsOk.B4 : List Nat := [0, 1, 3, 7, 15, 31, 63, 127, 127, 383, 1023, 2047, 4095, 127, 8319, 32767, 65535, 131071]
theorem impl_DeclsOk.tab4 : rtab .any (opsOf Tryz.f82 4) = impl_DeclsOk.T4 := by kernel_rfl
theorem impl_DeclsOk.bits4 : waitsOk impl_DeclsOk.T4.2 impl_DeclsOk.B4 = true := by kernel_rfl
theorem impl_DeclsOk.calls (k : Nat) (A0 : Option Addr) (c0 : Nat) (l0 : List (S73)) (r : Bool) (w : World) (hr0 : Kd.C k73 w A0 l0.length l0) (hc0 : l0.length ≤ c0) (hTab : Tabs w) (h : impl_DeclsOk.f k l0 = some r) :
  Calls Tryz.prog 82 #[.slice A0 l0.length c0] w fun e w' => e = .returned (.bool r) ∧ Below w.heap.size w w' := by
 have HT := Aside0.mk hTab
 clear hTab
 have hu73 := Tryz.underlying73
 have HR0 := Aside0.mk hr0
 have HC0 := Aside0.mk hc0
 clear hr0 hc0
 have HB := Aside0.mk (Below.refl w.heap.size w)
 have H : (impl_DeclsOk.l0 k l0 l0 (l0.length : Int) 0) = some r := h
 clear h
 have H' := Aside0.mk H
 clear H
 go_enter Tryz.func82, Tryz.ntmps82
 go_wp2
 go_loopg [7] k (fun kq v7 w' => ∃ (x7_1 : Int), v7 = .int .i64 x7_1 ∧ Aside0 (impl_DeclsOk.l0 kq l0 l0 (l0.length : Int) x7_1 = some r) ∧ Aside0 (kq ≤ k) ∧ Aside0 (Below w.heap.size w w'))
 case atStart => exact ⟨(0), rG, H', ⟨Nat.le_refl _⟩, ⟨hB⟩⟩
 case round =>
  clear H'
  obtain ⟨x7_1, rfl, HA, HK1, HB⟩ := hrel
  cases gk with
  | zero => exact absurd HA.out (by simp [impl_DeclsOk.l0])
  | succ k1 =>
   have H := HA.out
   clear HA
   simp only [impl_DeclsOk.l0] at H
   by_cases c2 : x7_1 < (l0.length : Int)
   ·rw [if_pos c2] at H
    have c2b0 : decide (x7_1 < (l0.length : Int)) = true := decide_eq_true c2
    clear c2
    obtain ⟨c3, H⟩ := if_som H
    have c3b0 : decide (0 ≤ x7_1) = true := decide_eq_true c3
    clear c3
    obtain ⟨c4, H⟩ := if_som H
    have c4b0 : decide (x7_1 < (l0.length : Int)) = true := decide_eq_true c4
    clear c4
    replace H := Option.bind_eq_some_iff.mp H
    obtain ⟨t345, A50, H⟩ := H
    try dsimp only at H
    have A5 := Aside0.mk A50
    clear A50
    by_cases c6 : t345 = true
    ·subst c6
     rw [if_pos rfl] at H
     by_cases c7 : x7_1 > 0
     ·rw [if_pos c7] at H
      have c7b0 : decide (0 < x7_1) = true := decide_eq_true c7
      clear c7
      obtain ⟨ji8, hji8⟩ : ∃ j_ : Int, (wrap64 (x7_1 - 1)) = j_ := ⟨_, rfl⟩
      replace H : (if 0 ≤ (ji8) then (if (ji8) < (l0.length : Int) then (if ((Op.bytesLess (((rd_T73 l0 (ji8)).f0).toList) (((rd_T73 l0 x7_1).f0).toList)) = true) then (impl_DeclsOk.l0 k1 l0 l0 (l0.length : Int) (wrap64 (x7_1 + 1))) else (some false)) else (none)) else (none)) = some r := by first | (rw [hji8] at H; exact H) | (simp only [hji8] at H ⊢; exact H)
      (try rw [hji8] at A5)
      have hji8w : (IntKind.i64.wrap (x7_1 - 1)) = ji8 := (i64_w _).trans hji8
      obtain ⟨c9, H⟩ := if_som H
      have c9b0 : decide (0 ≤ (ji8)) = true := decide_eq_true c9
      clear c9
      obtain ⟨c10, H⟩ := if_som H
      have c10b0 : decide ((ji8) < (l0.length : Int)) = true := decide_eq_true c10
      clear c10
      have p343 : 0 ≤ (x7_1 : Int) := odt
      have q343 : x7_1 < (l0.length : Int) := odt
      obtain ⟨ad343, e343, hx343_0, hx343_1⟩ := at_T73 HR0.out x7_1 p343 q343
      cases e343
      replace hx343_0 := pw_cell_below HB.out hx343_0
      replace hx343_1 := pw_cell_below HB.out hx343_1
      replace p343 := eq_true p343
      replace q343 := eq_true q343
      try go_wp2_with (first | ((with_reducible refine gate_dst (N := 4) rfl ?_); refine box_event ?hg (N := 4) ?hd (cs := #[.string (⟨#[]⟩ : ByteArray), .string (⟨#[]⟩ : ByteArray)]) (t := 73) ?hr ?_; (case hd => rfl); (case hg => rfl); (case hr => first | (go_simp; done) | (go_simp; rfl)); intro gb344 hg w11 hbox hb; have BK344 := Aside0.mk (hbox); have GW344 := Aside0.mk ((by rw [hg]; exact (below_size hB) : w.heap.size ≤ gb344)); have GE344 := Aside0.mk ((by rw [hg]; exact (below_size hB) : w.heap.size ≤ gb344)); replace HB := Aside0.mk (below_step hB hb); clear hb hbox hg; obtain ⟨hcz12_0, hcz12_1⟩ := bc2 BK344.out; obtain ⟨hfz12_0, hfz12_1⟩ := bf2 BK344.out))
      have n0_ : Aside0 (((w11.setCell ⟨gb344, 0, none⟩ (.string ((rd_T73 l0 x7_1).f0))).setCell ⟨gb344, 1, none⟩ (.string ((rd_T73 l0 x7_1).f1))).heap[gb344]? = some (.cells #[.string ((rd_T73 l0 x7_1).f0), .string ((rd_T73 l0 x7_1).f1)] 73 (0, 0))) := ⟨by (with_reducible repeat (first | refine bN ?_ _|refine bD ?_|refine bA ?_ _)); exact put2 (by (with_reducible repeat (first | refine bN ?_ _|refine bD ?_|refine bA ?_ _)); exact BK344.out)⟩
      have n1_ : Aside0 (Below w.heap.size w ((w11.setCell ⟨gb344, 0, none⟩ (.string ((rd_T73 l0 x7_1).f0))).setCell ⟨gb344, 1, none⟩ (.string ((rd_T73 l0 x7_1).f1)))) := ⟨hB⟩
      (try clear BK344)
      (try clear HB)
      generalize ((w11.setCell ⟨gb344, 0, none⟩ (.string ((rd_T73 l0 x7_1).f0))).setCell ⟨gb344, 1, none⟩ (.string ((rd_T73 l0 x7_1).f1))) = w13 at n0_ n1_ ⊢
      have BK344 := n0_
      have HB := n1_
      clear n0_ n1_
      replace BK344 := Aside0.mk (blk_drew BK344.out)
      replace HB := Aside0.mk (below_drew1 HB.out)
      have p346 : 0 ≤ ((ji8) : Int) := odt
      have q346 : (ji8) < (l0.length : Int) := odt
      obtain ⟨ad346, e346, hx346_0, hx346_1⟩ := at_T73 HR0.out (ji8) p346 q346
      have hw346_1 := hx346_1
      have hw346_0 := hx346_0
      obtain rfl : ad343 = ad346 := (by injection e346)
      replace hx346_0 := pw_cell_below HB.out hx346_0
      replace hx346_1 := pw_cell_below HB.out hx346_1
      replace p346 := eq_true p346
      replace q346 := eq_true q346
      refine start_ (n := 18) (S := fun w' => w'.cell? ⟨gb344, 0, none⟩ = some (.string ((rd_T73 l0 x7_1).f0)) ∧ w'.cell? ⟨gb344, 1, none⟩ = some (.string ((rd_T73 l0 x7_1).f1)) ∧ w'.cell? (ad343.add (((ji8)).toNat * 2)) = some (.string ((rd_T73 l0 (ji8)).f0)) ∧ w'.cell? ⟨(ad343.add (((ji8)).toNat * 2)).block, (ad343.add (((ji8)).toNat * 2)).off + 1, none⟩ = some (.string ((rd_T73 l0 (ji8)).f1))) (ds := []) #[false, false, false, false, false, false, false, false, false, false, false, false, false, false, false, false, false, false] (by kernel_rfl) rfl rfl ⟨(blk_cell BK344.out 0).trans rfl, (blk_cell BK344.out 1).trans rfl, (pw_cell_below HB.out hw346_0), (pw_cell_below HB.out hw346_1)⟩ (fun hHeld => ?_); refine with_tabW impl_DeclsOk.tab4 impl_DeclsOk.bits4 (fun HT_ HW_ => ?_)
      generalize w13.drew = w14 at BK344 HB hx346_0 hx346_1 hHeld ⊢
      refine take_ (i := 0) (N := some 12) (v := ?_) (a' := ?_) (tf 1 17) rfl rfl (take_ofW HT_.out HW_.out (by kernel_rfl)) (fun _ _ _ h => h) (Or.inl ⟨by rfl, ?_⟩) hHeld ?_ ?_
      rotate_left
      ·rintro w' ⟨s0, s1, s2, s3⟩
       go_simp
       with_reducible rfl
      rotate_left
      ·simp only [Act.put, sT, sZ, sS, i64_w, i32_w]
       rfl
      refine one_ (i := 1) (N := some 13) (tf 2 16) rfl rfl (one_of HT_.out (by kernel_rfl)) (by decide) (fun K hK => ?_)
      refine goes_ Tryz.func115 (by kernel_rfl) rfl #[.agg #[.string ((rd_T73 l0 x7_1).f0), .string ((rd_T73 l0 x7_1).f1)]] (by rfl) rfl rfl mA ?_
      with_reducible refine (impl_DeclOk.calls k1 ((rd_T73 l0 x7_1).f0) ((rd_T73 l0 x7_1).f1) true _ ?tabs A5.out).mono ?_
      case tabs => first | exact Tabs.below HT.out hB | (repeat (first | exact HT.out | (with_reducible refine Tabs.drewN ?_ _) | (with_reducible refine Tabs.drew ?_) | (with_reducible refine Tabs.alloc ?_ _)))
      rintro e w15 ⟨rfl, hb⟩
      refine ⟨_, rfl, ?_⟩
      replace BK344 := Aside0.mk (blk_below (g := gb344) (by (with_reducible repeat (first | refine bN ?_ _|refine bD ?_|refine bA ?_ _)); exact BK344.out) hb)
      replace HB := Aside0.mk (below_step hB hb)
      (try clear hb)
      (try clear hb2)
      (try clear hk)
      (try clear hi)
      refine hK.out _ _ ⟨(blk_cell BK344.out 0).trans rfl, (blk_cell BK344.out 1).trans rfl, (pw_cell_below HB.out hw346_0), (pw_cell_below HB.out hw346_1)⟩ (fun hHeld => ?_)
      clear hK K
      refine norm_ (a' := ?_) ?_ ?_
      rotate_left
      ·show Act.put _ (some 13) _ = _
       simp only [Act.put, sT, sZ, sS, i64_w, i32_w]
       rfl
      refine pU 2 14 (tf 3 15) ?_
      refine pU 3 15 (tf 4 14) ?_
      refine pU 4 16 (tf 5 13) ?_
      refine pU 5 17 (tf 6 12) ?_
      refine pU 6 18 (tf 7 11) ?_
      refine pU 7 19 (tf 8 10) ?_
      refine pU 8 20 (tf 9 9) ?_
      refine pU 9 21 (tf 10 8) ?_
      refine pU 10 22 (tf 11 7) ?_
      refine pU 11 23 (tf 12 6) ?_
      refine pU 13 25 #[true, true, true, true, true, true, true, true, true, true, true, true, false, true, false, false, false, false] ?_
      refine take_ (i := 12) (N := some 24) (v := ?_) (a' := ?_) (tf 14 4) rfl rfl (take_ofW HT_.out HW_.out (by kernel_rfl)) (fun _ _ _ h => h) (Or.inl ⟨by rfl, ?_⟩) hHeld ?_ ?_
      rotate_left
      ·rintro w' ⟨s0, s1, s2, s3⟩
       go_simp
       with_reducible rfl
      rotate_left
      ·simp only [Act.put, sT, sZ, sS, i64_w, i32_w]
       rfl
      refine take_ (i := 14) (N := some 26) (v := ?_) (a' := ?_) (tf 15 3) rfl rfl (take_ofW HT_.out HW_.out (by kernel_rfl)) (fun _ _ _ h => h) (Or.inl ⟨by rfl, ?_⟩) hHeld ?_ ?_
      rotate_left
      ·rintro w' ⟨s0, s1, s2, s3⟩
       go_simp
       with_reducible rfl
      rotate_left
      ·simp only [Act.put, sT, sZ, sS, i64_w, i32_w]
       rfl
      refine pU 15 27 (tf 16 2) ?_
      refine pU 16 28 (tf 17 1) ?_
      refine pU 17 29 (tf 18 0) ?_
      refine done_ (done_of HT_.out (by kernel_rfl)) ?_
      by_cases c16 : ((Op.bytesLess (((rd_T73 l0 (ji8)).f0).toList) (((rd_T73 l0 x7_1).f0).toList)) = true)
      ·rw [if_pos c16] at H
       have c16b0 : (Op.bytesLess (((rd_T73 l0 (ji8)).f0).toList) (((rd_T73 l0 x7_1).f0).toList)) = true := c16
       clear c16
       (first | rw [c16b0] | (simp only [i64_w, i32_w]; rw [c16b0]) | skip)
       have H' := Aside0.mk H
       clear H
       go_wp2
       go_roundg k1
       case measure => have := HK1.out; omega
       case rel => exact ⟨(wrap64 (x7_1 + 1)), rG, H', ⟨by have := HK1.out; omega⟩, ⟨hB⟩⟩
      ·rw [if_neg c16] at H
       have c16b0 : (Op.bytesLess (((rd_T73 l0 (ji8)).f0).toList) (((rd_T73 l0 x7_1).f0).toList)) = false := by simpa using c16
       clear c16
       (first | rw [c16b0] | (simp only [i64_w, i32_w]; rw [c16b0]) | skip)
       obtain rfl := Option.some.inj H
       go_wp2
       go_ret
       exact ⟨by first | rfl | (simp [errW_none, errW_some] <;> rfl) | (simp only [← hji8]; first | rfl | (simp [errW_none, errW_some] <;> rfl)) | (simp [*, errW_none, errW_some] <;> rfl), hB⟩
     ·rw [if_neg c7] at H
      have c7b0 : decide (0 < x7_1) = false := decide_eq_false c7
      clear c7
      have H' := Aside0.mk H
      clear H
      have p343 : 0 ≤ (x7_1 : Int) := odt
      have q343 : x7_1 < (l0.length : Int) := odt
      obtain ⟨ad343, e343, hx343_0, hx343_1⟩ := at_T73 HR0.out x7_1 p343 q343
      cases e343
      replace hx343_0 := pw_cell_below HB.out hx343_0
      replace hx343_1 := pw_cell_below HB.out hx343_1
      replace p343 := eq_true p343
      replace q343 := eq_true q343
      try go_wp2_with (first | ((with_reducible refine gate_dst (N := 4) rfl ?_); refine box_event ?hg (N := 4) ?hd (cs := #[.string (⟨#[]⟩ : ByteArray), .string (⟨#[]⟩ : ByteArray)]) (t := 73) ?hr ?_; (case hd => rfl); (case hg => rfl); (case hr => first | (go_simp; done) | (go_simp; rfl)); intro gb344 hg w17 hbox hb; have BK344 := Aside0.mk (hbox); have GW344 := Aside0.mk ((by rw [hg]; exact (below_size hB) : w.heap.size ≤ gb344)); have GE344 := Aside0.mk ((by rw [hg]; exact (below_size hB) : w.heap.size ≤ gb344)); replace HB := Aside0.mk (below_step hB hb); clear hb hbox hg; obtain ⟨hcz18_0, hcz18_1⟩ := bc2 BK344.out; obtain ⟨hfz18_0, hfz18_1⟩ := bf2 BK344.out))
      have n0_ : Aside0 (((w17.setCell ⟨gb344, 0, none⟩ (.string ((rd_T73 l0 x7_1).f0))).setCell ⟨gb344, 1, none⟩ (.string ((rd_T73 l0 x7_1).f1))).heap[gb344]? = some (.cells #[.string ((rd_T73 l0 x7_1).f0), .string ((rd_T73 l0 x7_1).f1)] 73 (0, 0))) := ⟨by (with_reducible repeat (first | refine bN ?_ _|refine bD ?_|refine bA ?_ _)); exact put2 (by (with_reducible repeat (first | refine bN ?_ _|refine bD ?_|refine bA ?_ _)); exact BK344.out)⟩
      have n1_ : Aside0 (Below w.heap.size w ((w17.setCell ⟨gb344, 0, none⟩ (.string ((rd_T73 l0 x7_1).f0))).setCell ⟨gb344, 1, none⟩ (.string ((rd_T73 l0 x7_1).f1)))) := ⟨hB⟩
      (try clear BK344)
      (try clear HB)
      generalize ((w17.setCell ⟨gb344, 0, none⟩ (.string ((rd_T73 l0 x7_1).f0))).setCell ⟨gb344, 1, none⟩ (.string ((rd_T73 l0 x7_1).f1))) = w19 at n0_ n1_ ⊢
      have BK344 := n0_
      have HB := n1_
      clear n0_ n1_
      replace BK344 := Aside0.mk (blk_drew BK344.out)
      replace HB := Aside0.mk (below_drew1 HB.out)
      refine start_ (n := 18) (S := fun w' => w'.cell? ⟨gb344, 0, none⟩ = some (.string ((rd_T73 l0 x7_1).f0)) ∧ w'.cell? ⟨gb344, 1, none⟩ = some (.string ((rd_T73 l0 x7_1).f1))) (ds := []) #[false, false, false, false, false, false, false, false, false, false, false, false, false, false, false, false, false, false] (by kernel_rfl) rfl rfl ⟨(blk_cell BK344.out 0).trans rfl, (blk_cell BK344.out 1).trans rfl⟩ (fun hHeld => ?_); refine with_tabW impl_DeclsOk.tab4 impl_DeclsOk.bits4 (fun HT_ HW_ => ?_)
      generalize w19.drew = w20 at BK344 HB hHeld ⊢
      refine take_ (i := 0) (N := some 12) (v := ?_) (a' := ?_) (tf 1 17) rfl rfl (take_ofW HT_.out HW_.out (by kernel_rfl)) (fun _ _ _ h => h) (Or.inl ⟨by rfl, ?_⟩) hHeld ?_ ?_
      rotate_left
      ·rintro w' ⟨s0, s1⟩
       go_simp
       with_reducible rfl
      rotate_left
      ·simp only [Act.put, sT, sZ, sS, i64_w, i32_w]
       rfl
      refine one_ (i := 1) (N := some 13) (tf 2 16) rfl rfl (one_of HT_.out (by kernel_rfl)) (by decide) (fun K hK => ?_)
      refine goes_ Tryz.func115 (by kernel_rfl) rfl #[.agg #[.string ((rd_T73 l0 x7_1).f0), .string ((rd_T73 l0 x7_1).f1)]] (by rfl) rfl rfl mA ?_
      with_reducible refine (impl_DeclOk.calls k1 ((rd_T73 l0 x7_1).f0) ((rd_T73 l0 x7_1).f1) true _ ?tabs A5.out).mono ?_
      case tabs => first | exact Tabs.below HT.out hB | (repeat (first | exact HT.out | (with_reducible refine Tabs.drewN ?_ _) | (with_reducible refine Tabs.drew ?_) | (with_reducible refine Tabs.alloc ?_ _)))
      rintro e w21 ⟨rfl, hb⟩
      refine ⟨_, rfl, ?_⟩
      replace BK344 := Aside0.mk (blk_below (g := gb344) (by (with_reducible repeat (first | refine bN ?_ _|refine bD ?_|refine bA ?_ _)); exact BK344.out) hb)
      replace HB := Aside0.mk (below_step hB hb)
      (try clear hb)
      (try clear hb2)
      (try clear hk)
      (try clear hi)
      refine hK.out _ _ ⟨(blk_cell BK344.out 0).trans rfl, (blk_cell BK344.out 1).trans rfl⟩ (fun hHeld => ?_)
      clear hK K
      refine norm_ (a' := ?_) ?_ ?_
      rotate_left
      ·show Act.put _ (some 13) _ = _
       simp only [Act.put, sT, sZ, sS, i64_w, i32_w]
       rfl
      refine pU 2 14 (tf 3 15) ?_
      refine pU 3 15 (tf 4 14) ?_
      refine pU 4 16 (tf 5 13) ?_
      refine pU 5 17 (tf 6 12) ?_
      refine pU 6 18 (tf 7 11) ?_
      refine pV 7 19 (tf 8 10) ?_
       rfl
      refine pV 8 20 (tf 9 9) ?_
       rfl
      refine pV 9 21 (tf 10 8) ?_
       rfl
      refine pV 10 22 (tf 11 7) ?_
       rfl
      refine pV 11 23 (tf 12 6) ?_
       rfl
      refine pV 12 24 (tf 13 5) ?_
       rfl
      refine pV 13 25 (tf 14 4) ?_
       rfl
      refine pV 14 26 (tf 15 3) ?_
       rfl
      refine pV 15 27 (tf 16 2) ?_
       rfl
      refine pU 16 28 (tf 17 1) ?_
      refine pU 17 29 (tf 18 0) ?_
      refine done_ (done_of HT_.out (by kernel_rfl)) ?_
      try go_wp2
      go_roundg k1
      case measure => have := HK1.out; omega
      case rel => exact ⟨(wrap64 (x7_1 + 1)), rG, H', ⟨by have := HK1.out; omega⟩, ⟨hB⟩⟩
    ·replace c6 := Bool.eq_false_iff.mpr c6
     subst c6
     rw [if_neg (show ¬ (false = true) by decide)] at H
     obtain rfl := Option.some.inj H
     have p343 : 0 ≤ (x7_1 : Int) := odt
     have q343 : x7_1 < (l0.length : Int) := odt
     obtain ⟨ad343, e343, hx343_0, hx343_1⟩ := at_T73 HR0.out x7_1 p343 q343
     cases e343
     replace hx343_0 := pw_cell_below HB.out hx343_0
     replace hx343_1 := pw_cell_below HB.out hx343_1
     replace p343 := eq_true p343
     replace q343 := eq_true q343
     try go_wp2_with (first | ((with_reducible refine gate_dst (N := 4) rfl ?_); refine box_event ?hg (N := 4) ?hd (cs := #[.string (⟨#[]⟩ : ByteArray), .string (⟨#[]⟩ : ByteArray)]) (t := 73) ?hr ?_; (case hd => rfl); (case hg => rfl); (case hr => first | (go_simp; done) | (go_simp; rfl)); intro gb344 hg w22 hbox hb; have BK344 := Aside0.mk (hbox); have GW344 := Aside0.mk ((by rw [hg]; exact (below_size hB) : w.heap.size ≤ gb344)); have GE344 := Aside0.mk ((by rw [hg]; exact (below_size hB) : w.heap.size ≤ gb344)); replace HB := Aside0.mk (below_step hB hb); clear hb hbox hg; obtain ⟨hcz23_0, hcz23_1⟩ := bc2 BK344.out; obtain ⟨hfz23_0, hfz23_1⟩ := bf2 BK344.out))
     have n0_ : Aside0 (((w22.setCell ⟨gb344, 0, none⟩ (.string ((rd_T73 l0 x7_1).f0))).setCell ⟨gb344, 1, none⟩ (.string ((rd_T73 l0 x7_1).f1))).heap[gb344]? = some (.cells #[.string ((rd_T73 l0 x7_1).f0), .string ((rd_T73 l0 x7_1).f1)] 73 (0, 0))) := ⟨by (with_reducible repeat (first | refine bN ?_ _|refine bD ?_|refine bA ?_ _)); exact put2 (by (with_reducible repeat (first | refine bN ?_ _|refine bD ?_|refine bA ?_ _)); exact BK344.out)⟩
     have n1_ : Aside0 (Below w.heap.size w ((w22.setCell ⟨gb344, 0, none⟩ (.string ((rd_T73 l0 x7_1).f0))).setCell ⟨gb344, 1, none⟩ (.string ((rd_T73 l0 x7_1).f1)))) := ⟨hB⟩
     (try clear BK344)
     (try clear HB)
     generalize ((w22.setCell ⟨gb344, 0, none⟩ (.string ((rd_T73 l0 x7_1).f0))).setCell ⟨gb344, 1, none⟩ (.string ((rd_T73 l0 x7_1).f1))) = w24 at n0_ n1_ ⊢
     have BK344 := n0_
     have HB := n1_
     clear n0_ n1_
     replace BK344 := Aside0.mk (blk_drew BK344.out)
     replace HB := Aside0.mk (below_drew1 HB.out)
     refine start_ (n := 18) (S := fun w' => w'.cell? ⟨gb344, 0, none⟩ = some (.string ((rd_T73 l0 x7_1).f0)) ∧ w'.cell? ⟨gb344, 1, none⟩ = some (.string ((rd_T73 l0 x7_1).f1))) (ds := []) #[false, false, false, false, false, false, false, false, false, false, false, false, false, false, false, false, false, false] (by kernel_rfl) rfl rfl ⟨(blk_cell BK344.out 0).trans rfl, (blk_cell BK344.out 1).trans rfl⟩ (fun hHeld => ?_); refine with_tabW impl_DeclsOk.tab4 impl_DeclsOk.bits4 (fun HT_ HW_ => ?_)
     generalize w24.drew = w25 at BK344 HB hHeld ⊢
     refine take_ (i := 0) (N := some 12) (v := ?_) (a' := ?_) (tf 1 17) rfl rfl (take_ofW HT_.out HW_.out (by kernel_rfl)) (fun _ _ _ h => h) (Or.inl ⟨by rfl, ?_⟩) hHeld ?_ ?_
     rotate_left
     ·rintro w' ⟨s0, s1⟩
      go_simp
      with_reducible rfl
     rotate_left
     ·simp only [Act.put, sT, sZ, sS, i64_w, i32_w]
      rfl
     refine one_ (i := 1) (N := some 13) (tf 2 16) rfl rfl (one_of HT_.out (by kernel_rfl)) (by decide) (fun K hK => ?_)
     refine goes_ Tryz.func115 (by kernel_rfl) rfl #[.agg #[.string ((rd_T73 l0 x7_1).f0), .string ((rd_T73 l0 x7_1).f1)]] (by rfl) rfl rfl mA ?_
     with_reducible refine (impl_DeclOk.calls k1 ((rd_T73 l0 x7_1).f0) ((rd_T73 l0 x7_1).f1) false _ ?tabs A5.out).mono ?_
     case tabs => first | exact Tabs.below HT.out hB | (repeat (first | exact HT.out | (with_reducible refine Tabs.drewN ?_ _) | (with_reducible refine Tabs.drew ?_) | (with_reducible refine Tabs.alloc ?_ _)))
     rintro e w26 ⟨rfl, hb⟩
     refine ⟨_, rfl, ?_⟩
     replace BK344 := Aside0.mk (blk_below (g := gb344) (by (with_reducible repeat (first | refine bN ?_ _|refine bD ?_|refine bA ?_ _)); exact BK344.out) hb)
     replace HB := Aside0.mk (below_step hB hb)
     (try clear hb)
     (try clear hb2)
     (try clear hk)
     (try clear hi)
     refine hK.out _ _ ⟨(blk_cell BK344.out 0).trans rfl, (blk_cell BK344.out 1).trans rfl⟩ (fun hHeld => ?_)
     clear hK K
     refine norm_ (a' := ?_) ?_ ?_
     rotate_left
     ·show Act.put _ (some 13) _ = _
      simp only [Act.put, sT, sZ, sS, i64_w, i32_w]
      rfl
     refine pU 2 14 (tf 3 15) ?_
     refine pU 3 15 (tf 4 14) ?_
     refine pV 4 16 (tf 5 13) ?_
      rfl
     refine pV 5 17 (tf 6 12) ?_
      rfl
     refine pV 6 18 (tf 7 11) ?_
      rfl
     refine pV 7 19 (tf 8 10) ?_
      rfl
     refine pV 8 20 (tf 9 9) ?_
      rfl
     refine pV 9 21 (tf 10 8) ?_
      rfl
     refine pV 10 22 (tf 11 7) ?_
      rfl
     refine pV 11 23 (tf 12 6) ?_
      rfl
     refine pV 12 24 (tf 13 5) ?_
      rfl
     refine pV 13 25 (tf 14 4) ?_
      rfl
     refine pV 14 26 (tf 15 3) ?_
      rfl
     refine pV 15 27 (tf 16 2) ?_
      rfl
     refine pV 16 28 (tf 17 1) ?_
      rfl
     refine pU 17 29 (tf 18 0) ?_
     refine done_ (done_of HT_.out (by kernel_rfl)) ?_
     try go_wp2
     go_ret
     exact ⟨rE, hB⟩
   ·rw [if_neg c2] at H
    have c2b0 : decide (x7_1 < (l0.length : Int)) = false := decide_eq_false c2
    clear c2
    obtain rfl := Option.some.inj H
    go_wp2
    go_ret
    exact ⟨rE, hB⟩

/-! ### impl_attrOk: function 116 -/
def impl_attrOk.f (k : Nat) (a0_0 : ByteArray) (a0_1 : ByteArray) (a0_2 : ByteArray) (a0_3 : ByteArray) : Option (Bool) := (impl_preOk.f k a0_0).bind fun t348 => (if t348 = true then (if ((a0_0.toList == ([] : List UInt8)) != (a0_2.toList == ([] : List UInt8))) = true then (some false) else ((impl_uriOk.f k a0_2 a0_0).bind fun t349 => (if t349 = true then ((impl_PlainOk.f k a0_1).bind fun t350 => (if t350 = true then ((impl_TextOk.f k a0_3).bind fun t351 => (if t351 = true then (if a0_0.toList = ([] : List UInt8) then (some (a0_1.toList != ([120, 109, 108, 110, 115] : List UInt8))) else (some true)) else (some false))) else (some false))) else (some false)))) else (some false))
theorem impl_attrOk.mono : ∀ a0 a1 a2 a3 k, LeO (impl_attrOk.f k a0 a1 a2 a3) (impl_attrOk.f (k + 1) a0 a1 a2 a3) := by
 intro a0 a1 a2 a3 k
 unfold impl_attrOk.f
 repeat' first
   | (with_reducible exact impl_PlainOk.mono _ _)
   | (with_reducible exact impl_TextOk.mono _ _)
   | (with_reducible exact impl_preOk.mono _ _)
   | (with_reducible exact impl_uriOk.mono _ _ _)
   | (with_reducible exact LeO.refl _)
   | (with_reducible exact LeO.none _)
   | (with_reducible refine LeO.ite ?_ ?_)
   | (with_reducible refine LeO.bind ?_ (fun _ => ?_))
   | exact impl_PlainOk.mono _ _
   | exact impl_TextOk.mono _ _
   | exact impl_preOk.mono _ _
   | exact impl_uriOk.mono _ _ _
   | exact LeO.none _
   | refine LeO.ite ?_ ?_
   | refine LeO.bind ?_ (fun _ => ?_)
theorem impl_attrOk.calls (k : Nat) (a0_0 : ByteArray) (a0_1 : ByteArray) (a0_2 : ByteArray) (a0_3 : ByteArray) (r : Bool) (w : World) (hTab : Tabs w) (h : impl_attrOk.f k a0_0 a0_1 a0_2 a0_3 = some r) :
  Calls Tryz.prog 116 #[.agg #[.string a0_0, .string a0_1, .string a0_2, .string a0_3]] w fun e w' => e = .returned (.bool r) ∧ Below w.heap.size w w' := by
 have HT := Aside0.mk hTab
 clear hTab
 have hu68 := Tryz.underlying68
 have HB := Aside0.mk (Below.refl w.heap.size w)
 have H : ((impl_preOk.f k a0_0).bind fun t348 => (if t348 = true then (if ((a0_0.toList == ([] : List UInt8)) != (a0_2.toList == ([] : List UInt8))) = true then (some false) else ((impl_uriOk.f k a0_2 a0_0).bind fun t349 => (if t349 = true then ((impl_PlainOk.f k a0_1).bind fun t350 => (if t350 = true then ((impl_TextOk.f k a0_3).bind fun t351 => (if t351 = true then (if a0_0.toList = ([] : List UInt8) then (some (a0_1.toList != ([120, 109, 108, 110, 115] : List UInt8))) else (some true)) else (some false))) else (some false))) else (some false)))) else (some false))) = some r := h
 clear h
 replace H := Option.bind_eq_some_iff.mp H
 obtain ⟨t348, A20, H⟩ := H
 try dsimp only at H
 have A2 := Aside0.mk A20
 clear A20
 go_enter Tryz.func116, Tryz.ntmps116
 go_wp2_with (first | ((with_reducible refine gate_dst (N := 1) rfl ?_); refine box_event ?hg (N := 1) ?hd (cs := #[.string a0_0, .string a0_1, .string a0_2, .string a0_3]) (t := 68) ?hr ?_; (case hd => rfl); (case hg => rfl); (case hr => first | (go_simp; done) | (go_simp; rfl)); intro gb347 hg w3 hbox hb; have BK347 := Aside0.mk (hbox); have GW347 := Aside0.mk ((by rw [hg]; exact (below_size hB) : w.heap.size ≤ gb347)); have GE347 := Aside0.mk ((by rw [hg]; exact (below_size hB) : w.heap.size ≤ gb347)); replace HB := Aside0.mk (below_step hB hb); clear hb hbox hg; obtain ⟨hcz4_0, hcz4_1, hcz4_2, hcz4_3⟩ := bc4 BK347.out) | ((with_reducible refine gate_callee (f := 79) rfl ?_); refine goesL_ (some 5) rfl rfl Tryz.func79 (by kernel_rfl) rfl #[.string a0_0] rfl mA ?_; (with_reducible refine (impl_preOk.calls k a0_0 t348 _ ?tabs A2.out).mono ?_); (case tabs => first | exact Tabs.below HT.out hB | (repeat (first | exact HT.out | (with_reducible refine Tabs.drewN ?_ _) | (with_reducible refine Tabs.drew ?_) | (with_reducible refine Tabs.alloc ?_ _)))); rintro e w5 ⟨rfl, hb⟩; refine ⟨_, rfl, ?_⟩; replace BK347 := Aside0.mk (blk_below (g := gb347) (by (with_reducible repeat (first | refine bN ?_ _|refine bD ?_|refine bA ?_ _)); exact BK347.out) hb); replace HB := Aside0.mk (below_step hB hb); (try clear hb); (try clear hb2); (try clear hk); (try clear hi); refine halt_ ?_; intro q_ hq_))
 obtain ⟨rfl⟩ := hq_
 by_cases c6 : t348 = true
 ·subst c6
  rw [if_pos rfl] at H
  by_cases c7 : ((a0_0.toList == ([] : List UInt8)) != (a0_2.toList == ([] : List UInt8))) = true
  ·rw [if_pos c7] at H
   have c7b0 : ((a0_0.toList == ([] : List UInt8)) != (a0_2.toList == ([] : List UInt8))) = true := c7
   have c7e : (a0_0.toList.isEmpty == a0_2.toList.isEmpty) = false := by have z_ := c7b0; revert z_; cases a0_0.toList <;> cases a0_2.toList <;> simp
   have c7f : ¬ (a0_0.toList.isEmpty = a0_2.toList.isEmpty) := by simpa using c7e
   (try (have c7b1 : decide ((a0_0.toList == ([] : List UInt8)) = (a0_2.toList == ([] : List UInt8))) = false := by simpa using c7))
   (try (have c7b2 : ((a0_0.toList == ([] : List UInt8)) == (a0_2.toList == ([] : List UInt8))) = false := by simpa using c7))
   (try (have c7b3 : ¬ ((a0_0.toList == ([] : List UInt8)) = (a0_2.toList == ([] : List UInt8))) := by simpa using c7))
   clear c7
   obtain rfl := Option.some.inj H
   obtain ⟨hcz8_0, hcz8_1, hcz8_2, hcz8_3⟩ := bc4 BK347.out
   go_wp2
   go_ret
   exact ⟨rE, hB⟩
  ·rw [if_neg c7] at H
   have c7b0 : ((a0_0.toList == ([] : List UInt8)) != (a0_2.toList == ([] : List UInt8))) = false := by simpa using c7
   have c7e : (a0_0.toList.isEmpty == a0_2.toList.isEmpty) = true := by have z_ := c7b0; revert z_; cases a0_0.toList <;> cases a0_2.toList <;> simp
   have c7f : (a0_0.toList.isEmpty = a0_2.toList.isEmpty) := by simpa using c7e
   (try (have c7b1 : decide ((a0_0.toList == ([] : List UInt8)) = (a0_2.toList == ([] : List UInt8))) = true := by simpa using c7))
   (try (have c7b2 : ((a0_0.toList == ([] : List UInt8)) == (a0_2.toList == ([] : List UInt8))) = true := by simpa using c7))
   clear c7
   replace H := Option.bind_eq_some_iff.mp H
   obtain ⟨t349, A90, H⟩ := H
   try dsimp only at H
   have A9 := Aside0.mk A90
   clear A90
   obtain ⟨hcz10_0, hcz10_1, hcz10_2, hcz10_3⟩ := bc4 BK347.out
   go_wp2_with (first | (go_at_call 80; (with_reducible refine (impl_uriOk.calls k a0_2 a0_0 t349 _ ?tabs A9.out).mono ?_); (case tabs => first | exact Tabs.below HT.out hB | (repeat (first | exact HT.out | (with_reducible refine Tabs.drewN ?_ _) | (with_reducible refine Tabs.drew ?_) | (with_reducible refine Tabs.alloc ?_ _)))); rintro e w11 ⟨rfl, hb⟩; replace BK347 := Aside0.mk (blk_below (g := gb347) (by (with_reducible repeat (first | refine bN ?_ _|refine bD ?_|refine bA ?_ _)); exact BK347.out) hb); replace HB := Aside0.mk (below_step hB hb); (try clear hb); (try clear hb2); (try clear hk); (try clear hi); refine halt_ ?_; intro q_ hq_))
   obtain ⟨rfl⟩ := hq_
   by_cases c12 : t349 = true
   ·subst c12
    rw [if_pos rfl] at H
    replace H := Option.bind_eq_some_iff.mp H
    obtain ⟨t350, A130, H⟩ := H
    try dsimp only at H
    have A13 := Aside0.mk A130
    clear A130
    obtain ⟨hcz14_0, hcz14_1, hcz14_2, hcz14_3⟩ := bc4 BK347.out
    go_wp2_with (first | (go_at_call 81; (with_reducible refine (impl_PlainOk.calls k a0_1 t350 _ ?tabs A13.out).mono ?_); (case tabs => first | exact Tabs.below HT.out hB | (repeat (first | exact HT.out | (with_reducible refine Tabs.drewN ?_ _) | (with_reducible refine Tabs.drew ?_) | (with_reducible refine Tabs.alloc ?_ _)))); rintro e w15 ⟨rfl, hb⟩; replace BK347 := Aside0.mk (blk_below (g := gb347) (by (with_reducible repeat (first | refine bN ?_ _|refine bD ?_|refine bA ?_ _)); exact BK347.out) hb); replace HB := Aside0.mk (below_step hB hb); (try clear hb); (try clear hb2); (try clear hk); (try clear hi); refine halt_ ?_; intro q_ hq_))
    obtain ⟨rfl⟩ := hq_
    by_cases c16 : t350 = true
    ·subst c16
     rw [if_pos rfl] at H
     replace H := Option.bind_eq_some_iff.mp H
     obtain ⟨t351, A170, H⟩ := H
     try dsimp only at H
     have A17 := Aside0.mk A170
     clear A170
     obtain ⟨hcz18_0, hcz18_1, hcz18_2, hcz18_3⟩ := bc4 BK347.out
     go_wp2_with (first | (go_at_call 107; (with_reducible refine (impl_TextOk.calls k a0_3 t351 _ ?tabs A17.out).mono ?_); (case tabs => first | exact Tabs.below HT.out hB | (repeat (first | exact HT.out | (with_reducible refine Tabs.drewN ?_ _) | (with_reducible refine Tabs.drew ?_) | (with_reducible refine Tabs.alloc ?_ _)))); rintro e w19 ⟨rfl, hb⟩; replace BK347 := Aside0.mk (blk_below (g := gb347) (by (with_reducible repeat (first | refine bN ?_ _|refine bD ?_|refine bA ?_ _)); exact BK347.out) hb); replace HB := Aside0.mk (below_step hB hb); (try clear hb); (try clear hb2); (try clear hk); (try clear hi); refine halt_ ?_; intro q_ hq_))
     obtain ⟨rfl⟩ := hq_
     by_cases c20 : t351 = true
     ·subst c20
      rw [if_pos rfl] at H
      by_cases c21 : a0_0.toList = ([] : List UInt8)
      ·rw [if_pos c21] at H
       obtain ⟨c21b0, c21b1⟩ := eqT c21
       clear c21
       obtain rfl := Option.some.inj H
       obtain ⟨hcz22_0, hcz22_1, hcz22_2, hcz22_3⟩ := bc4 BK347.out
       go_wp2
       go_ret
       exact ⟨rE, hB⟩
      ·rw [if_neg c21] at H
       obtain ⟨c21b0, c21b1⟩ := eqF c21
       obtain rfl := Option.some.inj H
       obtain ⟨hcz23_0, hcz23_1, hcz23_2, hcz23_3⟩ := bc4 BK347.out
       go_wp2
       go_ret
       exact ⟨rE, hB⟩
     ·replace c20 := Bool.eq_false_iff.mpr c20
      subst c20
      rw [if_neg (show ¬ (false = true) by decide)] at H
      obtain rfl := Option.some.inj H
      go_wp2
      go_ret
      exact ⟨rE, hB⟩
    ·replace c16 := Bool.eq_false_iff.mpr c16
     subst c16
     rw [if_neg (show ¬ (false = true) by decide)] at H
     obtain rfl := Option.some.inj H
     go_wp2
     go_ret
     exact ⟨rE, hB⟩
   ·replace c12 := Bool.eq_false_iff.mpr c12
    subst c12
    rw [if_neg (show ¬ (false = true) by decide)] at H
    obtain rfl := Option.some.inj H
    go_wp2
    go_ret
    exact ⟨rE, hB⟩
 ·replace c6 := Bool.eq_false_iff.mpr c6
  subst c6
  rw [if_neg (show ¬ (false = true) by decide)] at H
  obtain rfl := Option.some.inj H
  go_wp2
  go_ret
  exact ⟨rE, hB⟩

/-! ### strings_Compare: function 144 -/
def strings_Compare.f (a0 a1 : ByteArray) : Option Int := some (Lib.compareBytes a0.data.toList a1.data.toList)
theorem strings_Compare.calls (a0 a1 : ByteArray) (r : Int) (w : World) (h : strings_Compare.f a0 a1 = some r) :
    Calls Tryz.prog 144 #[.string a0, .string a1] w fun e w' => e = .returned (.int .i64 r) ∧ Drawn0 w w' := by
  obtain rfl := Option.some.inj h
  exact (Tryz.strings_Compare a0 a1 w).mono fun e w' ⟨he, hw⟩ => ⟨he, by subst hw; exact Drawn0.refl _⟩

/-! ### impl_compareAttrs: function 117 -/
def impl_compareAttrs.f (a0_0 : ByteArray) (a0_1 : ByteArray) (a0_2 : ByteArray) (a0_3 : ByteArray) (a1_0 : ByteArray) (a1_1 : ByteArray) (a1_2 : ByteArray) (a1_3 : ByteArray) : Option (Int) := (strings_Compare.f a0_2 a1_2).bind fun t354 => (if t354 = 0 then ((strings_Compare.f a0_1 a1_1).bind fun t355 => (some t355)) else (some t354))
theorem impl_compareAttrs.calls (a0_0 : ByteArray) (a0_1 : ByteArray) (a0_2 : ByteArray) (a0_3 : ByteArray) (a1_0 : ByteArray) (a1_1 : ByteArray) (a1_2 : ByteArray) (a1_3 : ByteArray) (r : Int) (w : World) (h : impl_compareAttrs.f a0_0 a0_1 a0_2 a0_3 a1_0 a1_1 a1_2 a1_3 = some r) :
  Calls Tryz.prog 117 #[.agg #[.string a0_0, .string a0_1, .string a0_2, .string a0_3], .agg #[.string a1_0, .string a1_1, .string a1_2, .string a1_3]] w fun e w' => e = .returned (.int .i64 r) ∧ Below w.heap.size w w' := by
 have hu68 := Tryz.underlying68
 have HB := Aside0.mk (Below.refl w.heap.size w)
 have H : ((strings_Compare.f a0_2 a1_2).bind fun t354 => (if t354 = 0 then ((strings_Compare.f a0_1 a1_1).bind fun t355 => (some t355)) else (some t354))) = some r := h
 clear h
 replace H := Option.bind_eq_some_iff.mp H
 obtain ⟨t354, A30, H⟩ := H
 try dsimp only at H
 have A3 := Aside0.mk A30
 clear A30
 go_enter Tryz.func117, Tryz.ntmps117
 go_wp2_with (first | ((with_reducible refine gate_dst (N := 2) rfl ?_); refine box_event ?hg (N := 2) ?hd (cs := #[.string a0_0, .string a0_1, .string a0_2, .string a0_3]) (t := 68) ?hr ?_; (case hd => rfl); (case hg => rfl); (case hr => first | (go_simp; done) | (go_simp; rfl)); intro gb352 hg w4 hbox hb; have BK352 := Aside0.mk (hbox); have GW352 := Aside0.mk ((by rw [hg]; exact (below_size hB) : w.heap.size ≤ gb352)); have GE352 := Aside0.mk ((by rw [hg]; exact (below_size hB) : w.heap.size ≤ gb352)); replace HB := Aside0.mk (below_step hB hb); clear hb hbox hg) | ((with_reducible refine gate_dst (N := 3) rfl ?_); refine box_event ?hg (N := 3) ?hd (cs := #[.string a1_0, .string a1_1, .string a1_2, .string a1_3]) (t := 68) ?hr ?_; (case hd => rfl); (case hg => rfl); (case hr => first | (go_simp; done) | (go_simp; rfl)); intro gb353 hg w5 hbox hb; have BK353 := Aside0.mk (hbox); have GW353 := Aside0.mk ((by rw [hg]; exact (below_size hB) : w.heap.size ≤ gb353)); have GE353 := Aside0.mk ((by rw [hg]; exact (below_size hB) : w.heap.size ≤ gb353)); replace HB := Aside0.mk (below_step hB hb); have NB352_353 := Aside0.mk ((by rw [hg]; exact Nat.ne_of_lt (blk_lt (g := gb352) (by (with_reducible repeat (first | refine bN ?_ _|refine bD ?_|refine bA ?_ _)); exact BK352.out)) : gb352 ≠ gb353)); have NB353_352 := Aside0.mk ((by rw [hg]; exact Nat.ne_of_gt (blk_lt (g := gb352) (by (with_reducible repeat (first | refine bN ?_ _|refine bD ?_|refine bA ?_ _)); exact BK352.out)) : gb353 ≠ gb352)); replace BK352 := Aside0.mk (blk_below (g := gb352) (by (with_reducible repeat (first | refine bN ?_ _|refine bD ?_|refine bA ?_ _)); exact BK352.out) hb); clear hb hbox hg; have hnb6 := NB352_353.out; have hnc6 := NB353_352.out; obtain ⟨hcz7_0, hcz7_1, hcz7_2, hcz7_3⟩ := bc4 BK352.out; obtain ⟨hcz8_0, hcz8_1, hcz8_2, hcz8_3⟩ := bc4 BK353.out) | ((with_reducible refine gate_callee (f := 144) rfl ?_); refine goesL_ (some 10) rfl rfl Tryz.func144 (by kernel_rfl) rfl #[.string a0_2, .string a1_2] rfl mA ?_; (with_reducible refine (strings_Compare.calls a0_2 a1_2 t354 _ A3.out).mono ?_); rintro e w' ⟨rfl, ⟨nd, rfl⟩⟩; refine ⟨_, rfl, ?_⟩; refine halt_ ?_; intro q_ hq_))
 obtain ⟨rfl⟩ := hq_
 by_cases c9 : t354 = 0
 ·rw [if_pos c9] at H
  obtain ⟨c9b0, c9b1⟩ := eqT c9
  clear c9
  replace H := Option.bind_eq_some_iff.mp H
  obtain ⟨t355, A100, H⟩ := H
  try dsimp only at H
  have A10 := Aside0.mk A100
  clear A100
  obtain rfl := Option.some.inj H
  have hnb11 := NB352_353.out
  have hnc11 := NB353_352.out
  obtain ⟨hcz12_0, hcz12_1, hcz12_2, hcz12_3⟩ := bc4 BK352.out
  obtain ⟨hcz13_0, hcz13_1, hcz13_2, hcz13_3⟩ := bc4 BK353.out
  go_wp2_with (first | ((with_reducible refine gate_callee (f := 144) rfl ?_); refine goesL_ (some 18) rfl rfl Tryz.func144 (by kernel_rfl) rfl #[.string a0_1, .string a1_1] rfl mA ?_; (with_reducible refine (strings_Compare.calls a0_1 a1_1 t355 _ A10.out).mono ?_); rintro e w' ⟨rfl, ⟨nd, rfl⟩⟩; refine ⟨_, rfl, ?_⟩))
  go_ret
  exact ⟨rE, hB⟩
 ·rw [if_neg c9] at H
  obtain ⟨c9b0, c9b1⟩ := eqF c9
  obtain rfl := Option.some.inj H
  go_wp2
  go_ret
  exact ⟨rE, hB⟩

end Go.Proofs.YtalionlkjdgciaaGreatDoor.PA
