-- Written by the session's program hprint.py, over the kit's print program. Lean checks it.
import Derived.Test.YtlfjdaoibjjakaaGreatDoorPTx0
import Derived.Test.YtlfjdaoibjjakaaGreatDoorPTx12
namespace Go.Proofs.YtlfjdaoibjjakaaGreatDoor.PT
open Go.RowKit Go.Proofs.YtlfjdaoibjjakaaGreatDoorW.PrintWords Go.Proofs.YtlfjdaoibjjakaaGreatDoorW.PrintLast Go.Proofs.YtlfjdaoibjjakaaGreatDoorW.PrintMore
attribute [local go_sem] max2_int min2_int max_two min_two max_three min_three max_four min_four   -- for this text's walks alone
set_option linter.unusedVariables false
set_option linter.unusedSimpArgs false
set_option maxHeartbeats 8000000
set_option maxRecDepth 100000

/-! ### impl_attrsOk: function 93 -/
def impl_attrsOk.l0 : Nat → List (S75) → List (S75) → Int → Int → Option (Bool)
 | 0, _, _, _, _ => none
 | k + 1, x0, x5, x6, x7 => if x7 < x6 then (if 0 ≤ x7 then (if x7 < (x5.length : Int) then ((impl_attrOk.f k ((rd_T75 x5 x7).f0) ((rd_T75 x5 x7).f1) ((rd_T75 x5 x7).f2) ((rd_T75 x5 x7).f3)).bind fun t320 => (if t320 = true then (if x7 > 0 then (if 0 ≤ (wrap64 (x7 - 1)) then (if (wrap64 (x7 - 1)) < (x0.length : Int) then ((impl_compareAttrs.f ((rd_T75 x0 (wrap64 (x7 - 1))).f0) ((rd_T75 x0 (wrap64 (x7 - 1))).f1) ((rd_T75 x0 (wrap64 (x7 - 1))).f2) ((rd_T75 x0 (wrap64 (x7 - 1))).f3) ((rd_T75 x5 x7).f0) ((rd_T75 x5 x7).f1) ((rd_T75 x5 x7).f2) ((rd_T75 x5 x7).f3)).bind fun t322 => (if t322 ≥ 0 then (some false) else (impl_attrsOk.l0 k x0 x5 x6 (wrap64 (x7 + 1))))) else (none)) else (none)) else (impl_attrsOk.l0 k x0 x5 x6 (wrap64 (x7 + 1)))) else (some false))) else (none)) else (none)) else (some (decide ((x0.length : Int) ≤ 5)))
def impl_attrsOk.f (k : Nat) (l0 : List (S75)) : Option (Bool) := impl_attrsOk.l0 k l0 l0 (l0.length : Int) 0
theorem impl_attrsOk.mono_l : ∀ k, (∀ y0 y1 y2 y3, LeO (impl_attrsOk.l0 k y0 y1 y2 y3) (impl_attrsOk.l0 (k + 1) y0 y1 y2 y3))
 | 0 => fun _ _ _ _ r h => by simp [impl_attrsOk.l0] at h
 | k + 1 => by
  have ih0 := impl_attrsOk.mono_l k
  ·intro y0 y1 y2 y3
   unfold impl_attrsOk.l0
   repeat' first
   | (with_reducible exact ih0 _ _ _ _)
   | (with_reducible exact impl_attrOk.mono _ _ _ _ _)
   | (with_reducible exact LeO.refl _)
   | (with_reducible exact LeO.none _)
   | (with_reducible refine LeO.ite ?_ ?_)
   | (with_reducible refine LeO.bind ?_ (fun _ => ?_))
   | exact ih0 _ _ _ _
   | exact impl_attrOk.mono _ _ _ _ _
   | exact LeO.none _
   | refine LeO.ite ?_ ?_
   | refine LeO.bind ?_ (fun _ => ?_)
theorem impl_attrsOk.mono : ∀ a0 k, LeO (impl_attrsOk.f k a0) (impl_attrsOk.f (k + 1) a0) := by
 intro a0 k
 have ih0 := impl_attrsOk.mono_l k
 unfold impl_attrsOk.f
 repeat' first
   | (with_reducible exact ih0 _ _ _ _)
   | (with_reducible exact impl_attrOk.mono _ _ _ _ _)
   | (with_reducible exact LeO.refl _)
   | (with_reducible exact LeO.none _)
   | (with_reducible refine LeO.ite ?_ ?_)
   | (with_reducible refine LeO.bind ?_ (fun _ => ?_))
   | exact ih0 _ _ _ _
   | exact impl_attrOk.mono _ _ _ _ _
   | exact LeO.none _
   | refine LeO.ite ?_ ?_
   | refine LeO.bind ?_ (fun _ => ?_)
def impl_attrsOk.T4 : Bool × List (List Nat × List Nat) := (true, [([], []), ([0], [0]), ([1], [1]), ([2, 1], [2]), ([3], [3]), ([4, 3], [3, 4]), ([5, 3, 3], [3, 5]), ([6], [6]), ([6], [6]), ([8, 6], [6, 8]), ([7, 9, 6], [6, 7, 9]), ([10, 6], [6, 10]), ([6], [6]), ([11, 12, 6, 6], [6, 11, 12]), ([13, 6], [6, 13]), ([6, 14, 3], [3, 6, 14]), ([3, 15], [3, 15])])
def impl_attrsOk.B4 : List Nat := [0, 1, 3, 7, 15, 31, 63, 127, 127, 383, 1023, 2047, 127, 8191, 16383, 32767, 65535]
theorem impl_attrsOk.tab4 : rtab .any (opsOf Tryz.f93 4) = impl_attrsOk.T4 := by kernel_rfl
theorem impl_attrsOk.bits4 : waitsOk impl_attrsOk.T4.2 impl_attrsOk.B4 = true := by kernel_rfl
theorem impl_attrsOk.calls (k : Nat) (A0 : Option Addr) (c0 : Nat) (l0 : List (S75)) (r : Bool) (w : World) (hr0 : Kd.C k75 w A0 l0.length l0) (hc0 : l0.length ≤ c0) (hTab : Tabs w) (h : impl_attrsOk.f k l0 = some r) :
  Calls Tryz.prog 93 #[.slice A0 l0.length c0] w fun e w' => e = .returned (.bool r) ∧ Below w.heap.size w w' := by
 have HT := Aside0.mk hTab
 clear hTab
 have hu75 := Tryz.underlying75
 have HR0 := Aside0.mk hr0
 have HC0 := Aside0.mk hc0
 clear hr0 hc0
 have HB := Aside0.mk (Below.refl w.heap.size w)
 have H : (impl_attrsOk.l0 k l0 l0 (l0.length : Int) 0) = some r := h
 clear h
 have H' := Aside0.mk H
 clear H
 go_enter Tryz.func93, Tryz.ntmps93
 go_wp2
 go_loopg [7] k (fun kq v7 w' => ∃ (x7_1 : Int), v7 = .int .i64 x7_1 ∧ Aside0 (impl_attrsOk.l0 kq l0 l0 (l0.length : Int) x7_1 = some r) ∧ Aside0 (kq ≤ k) ∧ Aside0 (Below w.heap.size w w'))
 case atStart => exact ⟨(0), rG, H', ⟨Nat.le_refl _⟩, ⟨by repeat (first|(with_reducible first|exact HB.out|apply zA|apply zN|apply zD) | exact HB.out)⟩⟩
 case round =>
  clear H'
  obtain ⟨x7_1, rfl, HA, HK1, HB⟩ := hrel
  cases gk with
  | zero => exact absurd HA.out (by simp [impl_attrsOk.l0])
  | succ k1 =>
   have H := HA.out
   clear HA
   simp only [impl_attrsOk.l0] at H
   by_cases c2 : x7_1 < (l0.length : Int)
   ·rw [if_pos c2] at H
    have c2b0 : decide (x7_1 < (l0.length : Int)) = true := decide_eq_true c2
    clear c2
    by_cases c3 : 0 ≤ x7_1
    ·rw [if_pos c3] at H
     have c3b0 : decide (0 ≤ x7_1) = true := decide_eq_true c3
     clear c3
     by_cases c4 : x7_1 < (l0.length : Int)
     ·rw [if_pos c4] at H
      have c4b0 : decide (x7_1 < (l0.length : Int)) = true := decide_eq_true c4
      clear c4
      replace H := Option.bind_eq_some_iff.mp H
      obtain ⟨t320, A50, H⟩ := H
      try dsimp only at H
      have A5 := Aside0.mk A50
      clear A50
      by_cases c6 : t320 = true
      ·subst c6
       rw [if_pos rfl] at H
       by_cases c7 : x7_1 > 0
       ·rw [if_pos c7] at H
        have c7b0 : decide (0 < x7_1) = true := decide_eq_true c7
        clear c7
        obtain ⟨ji8, hji8⟩ : ∃ j_ : Int, (wrap64 (x7_1 - 1)) = j_ := ⟨_, rfl⟩
        replace H : (if 0 ≤ (ji8) then (if (ji8) < (l0.length : Int) then ((impl_compareAttrs.f ((rd_T75 l0 (ji8)).f0) ((rd_T75 l0 (ji8)).f1) ((rd_T75 l0 (ji8)).f2) ((rd_T75 l0 (ji8)).f3) ((rd_T75 l0 x7_1).f0) ((rd_T75 l0 x7_1).f1) ((rd_T75 l0 x7_1).f2) ((rd_T75 l0 x7_1).f3)).bind fun t322 => (if t322 ≥ 0 then (some false) else (impl_attrsOk.l0 k1 l0 l0 (l0.length : Int) (wrap64 (x7_1 + 1))))) else (none)) else (none)) = some r := by first | (rw [hji8] at H; exact H) | (simp only [hji8] at H ⊢; exact H)
        (try rw [hji8] at A5)
        have hji8w : (IntKind.i64.wrap (x7_1 - 1)) = ji8 := (i64_w _).trans hji8
        by_cases c9 : 0 ≤ (ji8)
        ·rw [if_pos c9] at H
         have c9b0 : decide (0 ≤ (ji8)) = true := decide_eq_true c9
         clear c9
         by_cases c10 : (ji8) < (l0.length : Int)
         ·rw [if_pos c10] at H
          have c10b0 : decide ((ji8) < (l0.length : Int)) = true := decide_eq_true c10
          clear c10
          replace H := Option.bind_eq_some_iff.mp H
          obtain ⟨t322, A110, H⟩ := H
          try dsimp only at H
          have A11 := Aside0.mk A110
          clear A110
          have p318 : 0 ≤ (x7_1 : Int) := odt
          have q318 : x7_1 < (l0.length : Int) := odt
          obtain ⟨ad318, e318, hx318_0, hx318_1, hx318_2, hx318_3⟩ := at_T75 HR0.out x7_1 p318 q318
          cases e318
          replace hx318_0 := pw_cell_below HB.out hx318_0
          replace hx318_1 := pw_cell_below HB.out hx318_1
          replace hx318_2 := pw_cell_below HB.out hx318_2
          replace hx318_3 := pw_cell_below HB.out hx318_3
          replace p318 := eq_true p318
          replace q318 := eq_true q318
          try go_wp2_with (first | ((with_reducible refine gate_dst (N := 4) rfl ?_); refine box_event ?hg (N := 4) ?hd (cs := #[.string (⟨#[]⟩ : ByteArray), .string (⟨#[]⟩ : ByteArray), .string (⟨#[]⟩ : ByteArray), .string (⟨#[]⟩ : ByteArray)]) (t := 75) ?hr ?_; (case hd => rfl); (case hg => rfl); (case hr => first | (go_simp; done) | (go_simp; rfl)); intro gb319 hg w12 hbox hb; have BK319 := Aside0.mk (hbox); have GW319 := Aside0.mk ((by rw [hg]; exact (below_size (by repeat (first|(with_reducible first|exact HB.out|apply zA|apply zN|apply zD) | exact HB.out))) : w.heap.size ≤ gb319)); have GE319 := Aside0.mk ((by rw [hg]; exact (below_size (by repeat (first|(with_reducible first|exact HB.out|apply zA|apply zN|apply zD) | exact HB.out))) : w.heap.size ≤ gb319)); replace HB := Aside0.mk (below_step (by repeat (first|(with_reducible first|exact HB.out|apply zA|apply zN|apply zD) | exact HB.out)) hb); clear hb hbox hg; obtain ⟨hcz13_0, hcz13_1, hcz13_2, hcz13_3⟩ := bc4 BK319.out; obtain ⟨hfz13_0, hfz13_1, hfz13_2, hfz13_3⟩ := bf4 BK319.out))
          have n0_ : Aside0 (((((w12.setCell ⟨gb319, 0, none⟩ (.string ((rd_T75 l0 x7_1).f0))).setCell ⟨gb319, 1, none⟩ (.string ((rd_T75 l0 x7_1).f1))).setCell ⟨gb319, 2, none⟩ (.string ((rd_T75 l0 x7_1).f2))).setCell ⟨gb319, 3, none⟩ (.string ((rd_T75 l0 x7_1).f3))).heap[gb319]? = some (.cells #[.string ((rd_T75 l0 x7_1).f0), .string ((rd_T75 l0 x7_1).f1), .string ((rd_T75 l0 x7_1).f2), .string ((rd_T75 l0 x7_1).f3)] 75 (0, 0))) := ⟨by (with_reducible repeat (first | refine bN ?_ _|refine bD ?_|refine bA ?_ _)); exact put4 (by (with_reducible repeat (first | refine bN ?_ _|refine bD ?_|refine bA ?_ _)); exact BK319.out)⟩
          have n1_ : Aside0 (Below w.heap.size w ((((w12.setCell ⟨gb319, 0, none⟩ (.string ((rd_T75 l0 x7_1).f0))).setCell ⟨gb319, 1, none⟩ (.string ((rd_T75 l0 x7_1).f1))).setCell ⟨gb319, 2, none⟩ (.string ((rd_T75 l0 x7_1).f2))).setCell ⟨gb319, 3, none⟩ (.string ((rd_T75 l0 x7_1).f3)))) := ⟨by repeat (first|(with_reducible first|exact HB.out|apply zA|apply zN|apply zD | refine below_set ?_ GE319.out) | exact HB.out)⟩
          (try clear BK319)
          (try clear HB)
          generalize ((((w12.setCell ⟨gb319, 0, none⟩ (.string ((rd_T75 l0 x7_1).f0))).setCell ⟨gb319, 1, none⟩ (.string ((rd_T75 l0 x7_1).f1))).setCell ⟨gb319, 2, none⟩ (.string ((rd_T75 l0 x7_1).f2))).setCell ⟨gb319, 3, none⟩ (.string ((rd_T75 l0 x7_1).f3))) = w14 at n0_ n1_ ⊢
          have BK319 := n0_
          have HB := n1_
          clear n0_ n1_
          replace BK319 := Aside0.mk (blk_drew BK319.out)
          replace HB := Aside0.mk (below_drew1 HB.out)
          have p321 : 0 ≤ ((ji8) : Int) := odt
          have q321 : (ji8) < (l0.length : Int) := odt
          obtain ⟨ad321, e321, hx321_0, hx321_1, hx321_2, hx321_3⟩ := at_T75 HR0.out (ji8) p321 q321
          have hw321_3 := hx321_3
          have hw321_2 := hx321_2
          have hw321_1 := hx321_1
          have hw321_0 := hx321_0
          obtain rfl : ad318 = ad321 := (by injection e321)
          replace hx321_0 := pw_cell_below HB.out hx321_0
          replace hx321_1 := pw_cell_below HB.out hx321_1
          replace hx321_2 := pw_cell_below HB.out hx321_2
          replace hx321_3 := pw_cell_below HB.out hx321_3
          replace p321 := eq_true p321
          replace q321 := eq_true q321
          refine start_ (n := 17) (S := fun w' => w'.cell? ⟨gb319, 0, none⟩ = some (.string ((rd_T75 l0 x7_1).f0)) ∧ w'.cell? ⟨gb319, 1, none⟩ = some (.string ((rd_T75 l0 x7_1).f1)) ∧ w'.cell? ⟨gb319, 2, none⟩ = some (.string ((rd_T75 l0 x7_1).f2)) ∧ w'.cell? ⟨gb319, 3, none⟩ = some (.string ((rd_T75 l0 x7_1).f3)) ∧ w'.cell? (ad318.add (((ji8)).toNat * 4)) = some (.string ((rd_T75 l0 (ji8)).f0)) ∧ w'.cell? ⟨(ad318.add (((ji8)).toNat * 4)).block, (ad318.add (((ji8)).toNat * 4)).off + 1, none⟩ = some (.string ((rd_T75 l0 (ji8)).f1)) ∧ w'.cell? ⟨(ad318.add (((ji8)).toNat * 4)).block, (ad318.add (((ji8)).toNat * 4)).off + 2, none⟩ = some (.string ((rd_T75 l0 (ji8)).f2)) ∧ w'.cell? ⟨(ad318.add (((ji8)).toNat * 4)).block, (ad318.add (((ji8)).toNat * 4)).off + 3, none⟩ = some (.string ((rd_T75 l0 (ji8)).f3))) (ds := []) #[false, false, false, false, false, false, false, false, false, false, false, false, false, false, false, false, false] (by kernel_rfl) rfl rfl ⟨(blk_cell BK319.out 0).trans rfl, (blk_cell BK319.out 1).trans rfl, (blk_cell BK319.out 2).trans rfl, (blk_cell BK319.out 3).trans rfl, (pw_cell_below HB.out hw321_0), (pw_cell_below HB.out hw321_1), (pw_cell_below HB.out hw321_2), (pw_cell_below HB.out hw321_3)⟩ (fun hHeld => ?_); refine with_tabW impl_attrsOk.tab4 impl_attrsOk.bits4 (fun HT_ HW_ => ?_)
          generalize w14.drew = w15 at BK319 HB hx321_0 hx321_1 hx321_2 hx321_3 hHeld ⊢
          refine take_ (i := 0) (N := some 12) (v := ?_) (a' := ?_) (tf 1 16) rfl rfl (take_ofW HT_.out HW_.out (by kernel_rfl)) (fun _ _ _ h => h) (Or.inl ⟨by rfl, ?_⟩) hHeld ?_ ?_
          rotate_left
          ·rintro w' ⟨s0, s1, s2, s3, s4, s5, s6, s7⟩
           go_simp
           with_reducible rfl
          rotate_left
          ·simp only [Act.put, sT, sZ, sS, i64_w, i32_w]
           rfl
          refine one_ (i := 1) (N := some 13) (tf 2 15) rfl rfl (one_of HT_.out (by kernel_rfl)) (by decide) (fun K hK => ?_)
          refine goes_ Tryz.func125 (by kernel_rfl) rfl #[.agg #[.string ((rd_T75 l0 x7_1).f0), .string ((rd_T75 l0 x7_1).f1), .string ((rd_T75 l0 x7_1).f2), .string ((rd_T75 l0 x7_1).f3)]] (by rfl) rfl rfl (by (try simp only [List.map_toArray, List.map_cons, List.map_nil]); first | done | rfl | (simp only [List.length_drop, List.length_take]; rfl)) ?_
          with_reducible refine (impl_attrOk.calls k1 ((rd_T75 l0 x7_1).f0) ((rd_T75 l0 x7_1).f1) ((rd_T75 l0 x7_1).f2) ((rd_T75 l0 x7_1).f3) true _ ?tabs A5.out).mono ?_
          case tabs => first | exact Tabs.below HT.out (by repeat (first|(with_reducible first|exact HB.out|apply zA|apply zN|apply zD | refine below_set ?_ GE319.out) | exact HB.out)) | (repeat (first | exact HT.out | (with_reducible refine Tabs.drewN ?_ _) | (with_reducible refine Tabs.drew ?_) | (with_reducible refine Tabs.alloc ?_ _)))
          rintro e w16 ⟨rfl, hb⟩
          refine ⟨_, rfl, ?_⟩
          replace BK319 := Aside0.mk (blk_below (g := gb319) (by (with_reducible repeat (first | refine bN ?_ _|refine bD ?_|refine bA ?_ _)); exact BK319.out) hb)
          replace HB := Aside0.mk (below_step (by repeat (first|(with_reducible first|exact HB.out|apply zA|apply zN|apply zD | refine below_set ?_ GE319.out) | exact HB.out)) hb)
          (try clear hb)
          (try clear hb2)
          (try clear hk)
          (try clear hi)
          refine hK.out _ _ ⟨(blk_cell BK319.out 0).trans rfl, (blk_cell BK319.out 1).trans rfl, (blk_cell BK319.out 2).trans rfl, (blk_cell BK319.out 3).trans rfl, (pw_cell_below HB.out hw321_0), (pw_cell_below HB.out hw321_1), (pw_cell_below HB.out hw321_2), (pw_cell_below HB.out hw321_3)⟩ (fun hHeld => ?_)
          clear hK K
          refine norm_ (a' := ?_) ?_ ?_
          rotate_left
          ·show Act.put _ (some 13) _ = _
           simp only [Act.put, sT, sZ, sS, i64_w, i32_w]
           rfl
          refine pure_ (i := 2) (N := some 14) (v := ?_) (a' := ?_) (tf 3 14) rfl rfl (any_of HT_.out (by kernel_rfl)) (fun _ _ _ h => h) (Or.inl ⟨by rfl, ?_⟩) ?_ ?_
          rotate_left; · intro w'; go_simp; with_reducible rfl
          rotate_left; · simp only [Act.put, sT, sZ, sS, i64_w, i32_w]; rfl
          refine pure_ (i := 3) (N := some 15) (v := ?_) (a' := ?_) (tf 4 13) rfl rfl (any_of HT_.out (by kernel_rfl)) (fun _ _ _ h => h) (Or.inl ⟨by rfl, ?_⟩) ?_ ?_
          rotate_left; · intro w'; go_simp; with_reducible rfl
          rotate_left; · simp only [Act.put, sT, sZ, sS, i64_w, i32_w]; rfl
          refine pure_ (i := 4) (N := some 16) (v := ?_) (a' := ?_) (tf 5 12) rfl rfl (any_of HT_.out (by kernel_rfl)) (fun _ _ _ h => h) (Or.inl ⟨by rfl, ?_⟩) ?_ ?_
          rotate_left; · intro w'; go_simp; with_reducible rfl
          rotate_left; · simp only [Act.put, sT, sZ, sS, i64_w, i32_w]; rfl
          refine pure_ (i := 5) (N := some 17) (v := ?_) (a' := ?_) (tf 6 11) rfl rfl (any_of HT_.out (by kernel_rfl)) (fun _ _ _ h => h) (Or.inl ⟨by rfl, ?_⟩) ?_ ?_
          rotate_left; · intro w'; go_simp; with_reducible rfl
          rotate_left; · simp only [Act.put, sT, sZ, sS, i64_w, i32_w]; rfl
          refine pure_ (i := 6) (N := some 18) (v := ?_) (a' := ?_) (tf 7 10) rfl rfl (any_of HT_.out (by kernel_rfl)) (fun _ _ _ h => h) (Or.inl ⟨by rfl, ?_⟩) ?_ ?_
          rotate_left; · intro w'; go_simp; with_reducible rfl
          rotate_left; · simp only [Act.put, sT, sZ, sS, i64_w, i32_w]; rfl
          refine pure_ (i := 7) (N := some 19) (v := ?_) (a' := ?_) (tf 8 9) rfl rfl (any_of HT_.out (by kernel_rfl)) (fun _ _ _ h => h) (Or.inl ⟨by rfl, ?_⟩) ?_ ?_
          rotate_left; · intro w'; go_simp; with_reducible rfl
          rotate_left; · simp only [Act.put, sT, sZ, sS, i64_w, i32_w]; rfl
          refine pure_ (i := 8) (N := some 20) (v := ?_) (a' := ?_) (tf 9 8) rfl rfl (any_of HT_.out (by kernel_rfl)) (fun _ _ _ h => h) (Or.inl ⟨by rfl, ?_⟩) ?_ ?_
          rotate_left; · intro w'; go_simp; with_reducible rfl
          rotate_left; · simp only [Act.put, sT, sZ, sS, i64_w, i32_w]; rfl
          refine pure_ (i := 9) (N := some 21) (v := ?_) (a' := ?_) (tf 10 7) rfl rfl (any_of HT_.out (by kernel_rfl)) (fun _ _ _ h => h) (Or.inl ⟨by rfl, ?_⟩) ?_ ?_
          rotate_left; · intro w'; go_simp; with_reducible rfl
          rotate_left; · simp only [Act.put, sT, sZ, sS, i64_w, i32_w]; rfl
          refine pure_ (i := 10) (N := some 22) (v := ?_) (a' := ?_) (tf 11 6) rfl rfl (any_of HT_.out (by kernel_rfl)) (fun _ _ _ h => h) (Or.inl ⟨by rfl, ?_⟩) ?_ ?_
          rotate_left; · intro w'; go_simp; with_reducible rfl
          rotate_left; · simp only [Act.put, sT, sZ, sS, i64_w, i32_w]; rfl
          refine take_ (i := 11) (N := some 23) (v := ?_) (a' := ?_) (tf 12 5) rfl rfl (take_ofW HT_.out HW_.out (by kernel_rfl)) (fun _ _ _ h => h) (Or.inl ⟨by rfl, ?_⟩) hHeld ?_ ?_
          rotate_left
          ·rintro w' ⟨s0, s1, s2, s3, s4, s5, s6, s7⟩
           go_simp
           with_reducible rfl
          rotate_left
          ·simp only [Act.put, sT, sZ, sS, i64_w, i32_w]
           rfl
          refine take_ (i := 12) (N := some 24) (v := ?_) (a' := ?_) (tf 13 4) rfl rfl (take_ofW HT_.out HW_.out (by kernel_rfl)) (fun _ _ _ h => h) (Or.inl ⟨by rfl, ?_⟩) hHeld ?_ ?_
          rotate_left
          ·rintro w' ⟨s0, s1, s2, s3, s4, s5, s6, s7⟩
           go_simp
           with_reducible rfl
          rotate_left
          ·simp only [Act.put, sT, sZ, sS, i64_w, i32_w]
           rfl
          refine one_ (i := 13) (N := some 25) (tf 14 3) rfl rfl (one_of HT_.out (by kernel_rfl)) (by decide) (fun K hK => ?_)
          refine goes_ Tryz.func126 (by kernel_rfl) rfl #[.agg #[.string ((rd_T75 l0 (ji8)).f0), .string ((rd_T75 l0 (ji8)).f1), .string ((rd_T75 l0 (ji8)).f2), .string ((rd_T75 l0 (ji8)).f3)], .agg #[.string ((rd_T75 l0 x7_1).f0), .string ((rd_T75 l0 x7_1).f1), .string ((rd_T75 l0 x7_1).f2), .string ((rd_T75 l0 x7_1).f3)]] (by rfl) rfl rfl (by (try simp only [List.map_toArray, List.map_cons, List.map_nil]); first | done | (simp only [hji8]; rfl) | rfl | (simp only [List.length_drop, List.length_take]; rfl)) ?_
          with_reducible refine (impl_compareAttrs.calls ((rd_T75 l0 (ji8)).f0) ((rd_T75 l0 (ji8)).f1) ((rd_T75 l0 (ji8)).f2) ((rd_T75 l0 (ji8)).f3) ((rd_T75 l0 x7_1).f0) ((rd_T75 l0 x7_1).f1) ((rd_T75 l0 x7_1).f2) ((rd_T75 l0 x7_1).f3) t322 _ A11.out).mono ?_
          rintro e w17 ⟨rfl, hb⟩
          refine ⟨_, rfl, ?_⟩
          replace BK319 := Aside0.mk (blk_below (g := gb319) (by (with_reducible repeat (first | refine bN ?_ _|refine bD ?_|refine bA ?_ _)); exact BK319.out) hb)
          replace HB := Aside0.mk (below_step (by repeat (first|(with_reducible first|exact HB.out|apply zA|apply zN|apply zD | refine below_set ?_ GE319.out) | exact HB.out)) hb)
          (try clear hb)
          (try clear hb2)
          (try clear hk)
          (try clear hi)
          refine hK.out _ _ ⟨(blk_cell BK319.out 0).trans rfl, (blk_cell BK319.out 1).trans rfl, (blk_cell BK319.out 2).trans rfl, (blk_cell BK319.out 3).trans rfl, (pw_cell_below HB.out hw321_0), (pw_cell_below HB.out hw321_1), (pw_cell_below HB.out hw321_2), (pw_cell_below HB.out hw321_3)⟩ (fun hHeld => ?_)
          clear hK K
          refine norm_ (a' := ?_) ?_ ?_
          rotate_left
          ·show Act.put _ (some 25) _ = _
           simp only [Act.put, sT, sZ, sS, i64_w, i32_w]
           rfl
          refine pure_ (i := 14) (N := some 26) (v := ?_) (a' := ?_) (tf 15 2) rfl rfl (any_of HT_.out (by kernel_rfl)) (fun _ _ _ h => h) (Or.inl ⟨by rfl, ?_⟩) ?_ ?_
          rotate_left; · intro w'; go_simp; with_reducible rfl
          rotate_left; · simp only [Act.put, sT, sZ, sS, i64_w, i32_w]; rfl
          refine pure_ (i := 15) (N := some 27) (v := ?_) (a' := ?_) (tf 16 1) rfl rfl (any_of HT_.out (by kernel_rfl)) (fun _ _ _ h => h) (Or.inl ⟨by rfl, ?_⟩) ?_ ?_
          rotate_left; · intro w'; go_simp; with_reducible rfl
          rotate_left; · simp only [Act.put, sT, sZ, sS, i64_w, i32_w]; rfl
          refine pure_ (i := 16) (N := some 28) (v := ?_) (a' := ?_) (tf 17 0) rfl rfl (any_of HT_.out (by kernel_rfl)) (fun _ _ _ h => h) (Or.inl ⟨by rfl, ?_⟩) ?_ ?_
          rotate_left; · intro w'; go_simp; with_reducible rfl
          rotate_left; · simp only [Act.put, sT, sZ, sS, i64_w, i32_w]; rfl
          refine done_ (done_of HT_.out (by kernel_rfl)) ?_
          by_cases c18 : t322 ≥ 0
          ·rw [if_pos c18] at H
           have c18b0 : decide (0 ≤ t322) = true := decide_eq_true c18
           clear c18
           (first | rw [c18b0] | (simp only [i64_w, i32_w]; rw [c18b0]) | skip)
           obtain rfl := Option.some.inj H
           go_wp2
           go_ret
           exact ⟨by first | rfl | (simp [errW_none, errW_some] <;> rfl) | (simp only [← hji8]; first | rfl | (simp [errW_none, errW_some] <;> rfl)) | (simp [*, errW_none, errW_some] <;> rfl), by repeat (first|(with_reducible first|exact HB.out|apply zA|apply zN|apply zD | refine below_set ?_ GE319.out) | exact HB.out)⟩
          ·rw [if_neg c18] at H
           have c18b0 : decide (0 ≤ t322) = false := decide_eq_false c18
           clear c18
           (first | rw [c18b0] | (simp only [i64_w, i32_w]; rw [c18b0]) | skip)
           have H' := Aside0.mk H
           clear H
           go_wp2
           go_roundg k1
           case measure => have := HK1.out; omega
           case rel => exact ⟨(wrap64 (x7_1 + 1)), rG, H', ⟨by have := HK1.out; omega⟩, ⟨by repeat (first|(with_reducible first|exact HB.out|apply zA|apply zN|apply zD | refine below_set ?_ GE319.out) | exact HB.out)⟩⟩
         ·rw [if_neg c10] at H
          exact absurd H (by simp)
        ·rw [if_neg c9] at H
         exact absurd H (by simp)
       ·rw [if_neg c7] at H
        have c7b0 : decide (0 < x7_1) = false := decide_eq_false c7
        clear c7
        have H' := Aside0.mk H
        clear H
        have p318 : 0 ≤ (x7_1 : Int) := odt
        have q318 : x7_1 < (l0.length : Int) := odt
        obtain ⟨ad318, e318, hx318_0, hx318_1, hx318_2, hx318_3⟩ := at_T75 HR0.out x7_1 p318 q318
        cases e318
        replace hx318_0 := pw_cell_below HB.out hx318_0
        replace hx318_1 := pw_cell_below HB.out hx318_1
        replace hx318_2 := pw_cell_below HB.out hx318_2
        replace hx318_3 := pw_cell_below HB.out hx318_3
        replace p318 := eq_true p318
        replace q318 := eq_true q318
        try go_wp2_with (first | ((with_reducible refine gate_dst (N := 4) rfl ?_); refine box_event ?hg (N := 4) ?hd (cs := #[.string (⟨#[]⟩ : ByteArray), .string (⟨#[]⟩ : ByteArray), .string (⟨#[]⟩ : ByteArray), .string (⟨#[]⟩ : ByteArray)]) (t := 75) ?hr ?_; (case hd => rfl); (case hg => rfl); (case hr => first | (go_simp; done) | (go_simp; rfl)); intro gb319 hg w19 hbox hb; have BK319 := Aside0.mk (hbox); have GW319 := Aside0.mk ((by rw [hg]; exact (below_size (by repeat (first|(with_reducible first|exact HB.out|apply zA|apply zN|apply zD) | exact HB.out))) : w.heap.size ≤ gb319)); have GE319 := Aside0.mk ((by rw [hg]; exact (below_size (by repeat (first|(with_reducible first|exact HB.out|apply zA|apply zN|apply zD) | exact HB.out))) : w.heap.size ≤ gb319)); replace HB := Aside0.mk (below_step (by repeat (first|(with_reducible first|exact HB.out|apply zA|apply zN|apply zD) | exact HB.out)) hb); clear hb hbox hg; obtain ⟨hcz20_0, hcz20_1, hcz20_2, hcz20_3⟩ := bc4 BK319.out; obtain ⟨hfz20_0, hfz20_1, hfz20_2, hfz20_3⟩ := bf4 BK319.out))
        have n0_ : Aside0 (((((w19.setCell ⟨gb319, 0, none⟩ (.string ((rd_T75 l0 x7_1).f0))).setCell ⟨gb319, 1, none⟩ (.string ((rd_T75 l0 x7_1).f1))).setCell ⟨gb319, 2, none⟩ (.string ((rd_T75 l0 x7_1).f2))).setCell ⟨gb319, 3, none⟩ (.string ((rd_T75 l0 x7_1).f3))).heap[gb319]? = some (.cells #[.string ((rd_T75 l0 x7_1).f0), .string ((rd_T75 l0 x7_1).f1), .string ((rd_T75 l0 x7_1).f2), .string ((rd_T75 l0 x7_1).f3)] 75 (0, 0))) := ⟨by (with_reducible repeat (first | refine bN ?_ _|refine bD ?_|refine bA ?_ _)); exact put4 (by (with_reducible repeat (first | refine bN ?_ _|refine bD ?_|refine bA ?_ _)); exact BK319.out)⟩
        have n1_ : Aside0 (Below w.heap.size w ((((w19.setCell ⟨gb319, 0, none⟩ (.string ((rd_T75 l0 x7_1).f0))).setCell ⟨gb319, 1, none⟩ (.string ((rd_T75 l0 x7_1).f1))).setCell ⟨gb319, 2, none⟩ (.string ((rd_T75 l0 x7_1).f2))).setCell ⟨gb319, 3, none⟩ (.string ((rd_T75 l0 x7_1).f3)))) := ⟨by repeat (first|(with_reducible first|exact HB.out|apply zA|apply zN|apply zD | refine below_set ?_ GE319.out) | exact HB.out)⟩
        (try clear BK319)
        (try clear HB)
        generalize ((((w19.setCell ⟨gb319, 0, none⟩ (.string ((rd_T75 l0 x7_1).f0))).setCell ⟨gb319, 1, none⟩ (.string ((rd_T75 l0 x7_1).f1))).setCell ⟨gb319, 2, none⟩ (.string ((rd_T75 l0 x7_1).f2))).setCell ⟨gb319, 3, none⟩ (.string ((rd_T75 l0 x7_1).f3))) = w21 at n0_ n1_ ⊢
        have BK319 := n0_
        have HB := n1_
        clear n0_ n1_
        replace BK319 := Aside0.mk (blk_drew BK319.out)
        replace HB := Aside0.mk (below_drew1 HB.out)
        refine start_ (n := 17) (S := fun w' => w'.cell? ⟨gb319, 0, none⟩ = some (.string ((rd_T75 l0 x7_1).f0)) ∧ w'.cell? ⟨gb319, 1, none⟩ = some (.string ((rd_T75 l0 x7_1).f1)) ∧ w'.cell? ⟨gb319, 2, none⟩ = some (.string ((rd_T75 l0 x7_1).f2)) ∧ w'.cell? ⟨gb319, 3, none⟩ = some (.string ((rd_T75 l0 x7_1).f3))) (ds := []) #[false, false, false, false, false, false, false, false, false, false, false, false, false, false, false, false, false] (by kernel_rfl) rfl rfl ⟨(blk_cell BK319.out 0).trans rfl, (blk_cell BK319.out 1).trans rfl, (blk_cell BK319.out 2).trans rfl, (blk_cell BK319.out 3).trans rfl⟩ (fun hHeld => ?_); refine with_tabW impl_attrsOk.tab4 impl_attrsOk.bits4 (fun HT_ HW_ => ?_)
        generalize w21.drew = w22 at BK319 HB hHeld ⊢
        refine take_ (i := 0) (N := some 12) (v := ?_) (a' := ?_) (tf 1 16) rfl rfl (take_ofW HT_.out HW_.out (by kernel_rfl)) (fun _ _ _ h => h) (Or.inl ⟨by rfl, ?_⟩) hHeld ?_ ?_
        rotate_left
        ·rintro w' ⟨s0, s1, s2, s3⟩
         go_simp
         with_reducible rfl
        rotate_left
        ·simp only [Act.put, sT, sZ, sS, i64_w, i32_w]
         rfl
        refine one_ (i := 1) (N := some 13) (tf 2 15) rfl rfl (one_of HT_.out (by kernel_rfl)) (by decide) (fun K hK => ?_)
        refine goes_ Tryz.func125 (by kernel_rfl) rfl #[.agg #[.string ((rd_T75 l0 x7_1).f0), .string ((rd_T75 l0 x7_1).f1), .string ((rd_T75 l0 x7_1).f2), .string ((rd_T75 l0 x7_1).f3)]] (by rfl) rfl rfl (by (try simp only [List.map_toArray, List.map_cons, List.map_nil]); first | done | rfl | (simp only [List.length_drop, List.length_take]; rfl)) ?_
        with_reducible refine (impl_attrOk.calls k1 ((rd_T75 l0 x7_1).f0) ((rd_T75 l0 x7_1).f1) ((rd_T75 l0 x7_1).f2) ((rd_T75 l0 x7_1).f3) true _ ?tabs A5.out).mono ?_
        case tabs => first | exact Tabs.below HT.out (by repeat (first|(with_reducible first|exact HB.out|apply zA|apply zN|apply zD | refine below_set ?_ GE319.out) | exact HB.out)) | (repeat (first | exact HT.out | (with_reducible refine Tabs.drewN ?_ _) | (with_reducible refine Tabs.drew ?_) | (with_reducible refine Tabs.alloc ?_ _)))
        rintro e w23 ⟨rfl, hb⟩
        refine ⟨_, rfl, ?_⟩
        replace BK319 := Aside0.mk (blk_below (g := gb319) (by (with_reducible repeat (first | refine bN ?_ _|refine bD ?_|refine bA ?_ _)); exact BK319.out) hb)
        replace HB := Aside0.mk (below_step (by repeat (first|(with_reducible first|exact HB.out|apply zA|apply zN|apply zD | refine below_set ?_ GE319.out) | exact HB.out)) hb)
        (try clear hb)
        (try clear hb2)
        (try clear hk)
        (try clear hi)
        refine hK.out _ _ ⟨(blk_cell BK319.out 0).trans rfl, (blk_cell BK319.out 1).trans rfl, (blk_cell BK319.out 2).trans rfl, (blk_cell BK319.out 3).trans rfl⟩ (fun hHeld => ?_)
        clear hK K
        refine norm_ (a' := ?_) ?_ ?_
        rotate_left
        ·show Act.put _ (some 13) _ = _
         simp only [Act.put, sT, sZ, sS, i64_w, i32_w]
         rfl
        refine pure_ (i := 2) (N := some 14) (v := ?_) (a' := ?_) (tf 3 14) rfl rfl (any_of HT_.out (by kernel_rfl)) (fun _ _ _ h => h) (Or.inl ⟨by rfl, ?_⟩) ?_ ?_
        rotate_left; · intro w'; go_simp; with_reducible rfl
        rotate_left; · simp only [Act.put, sT, sZ, sS, i64_w, i32_w]; rfl
        refine pure_ (i := 3) (N := some 15) (v := ?_) (a' := ?_) (tf 4 13) rfl rfl (any_of HT_.out (by kernel_rfl)) (fun _ _ _ h => h) (Or.inl ⟨by rfl, ?_⟩) ?_ ?_
        rotate_left; · intro w'; go_simp; with_reducible rfl
        rotate_left; · simp only [Act.put, sT, sZ, sS, i64_w, i32_w]; rfl
        refine pure_ (i := 4) (N := some 16) (v := ?_) (a' := ?_) (tf 5 12) rfl rfl (any_of HT_.out (by kernel_rfl)) (fun _ _ _ h => h) (Or.inl ⟨by rfl, ?_⟩) ?_ ?_
        rotate_left; · intro w'; go_simp; with_reducible rfl
        rotate_left; · simp only [Act.put, sT, sZ, sS, i64_w, i32_w]; rfl
        refine pure_ (i := 5) (N := some 17) (v := ?_) (a' := ?_) (tf 6 11) rfl rfl (any_of HT_.out (by kernel_rfl)) (fun _ _ _ h => h) (Or.inl ⟨by rfl, ?_⟩) ?_ ?_
        rotate_left; · intro w'; go_simp; with_reducible rfl
        rotate_left; · simp only [Act.put, sT, sZ, sS, i64_w, i32_w]; rfl
        refine pure_ (i := 6) (N := some 18) (v := ?_) (a' := ?_) (tf 7 10) rfl rfl (any_of HT_.out (by kernel_rfl)) (fun _ _ _ h => h) (Or.inl ⟨by rfl, ?_⟩) ?_ ?_
        rotate_left; · intro w'; go_simp; with_reducible rfl
        rotate_left; · simp only [Act.put, sT, sZ, sS, i64_w, i32_w]; rfl
        refine pure_ (i := 7) (N := some 19) (v := undef) (a' := ?_) (tf 8 9) rfl rfl (any_of HT_.out (by kernel_rfl)) (fun _ _ _ h => h) (Or.inr ⟨by rfl, rfl⟩) ?_ ?_
        rotate_left
        ·simp only [Act.put, sT, sZ, sS, i64_w, i32_w]
         rfl
        refine pure_ (i := 8) (N := some 20) (v := undef) (a' := ?_) (tf 9 8) rfl rfl (any_of HT_.out (by kernel_rfl)) (fun _ _ _ h => h) (Or.inr ⟨by rfl, rfl⟩) ?_ ?_
        rotate_left
        ·simp only [Act.put, sT, sZ, sS, i64_w, i32_w]
         rfl
        refine pure_ (i := 9) (N := some 21) (v := undef) (a' := ?_) (tf 10 7) rfl rfl (any_of HT_.out (by kernel_rfl)) (fun _ _ _ h => h) (Or.inr ⟨by rfl, rfl⟩) ?_ ?_
        rotate_left
        ·simp only [Act.put, sT, sZ, sS, i64_w, i32_w]
         rfl
        refine pure_ (i := 10) (N := some 22) (v := undef) (a' := ?_) (tf 11 6) rfl rfl (any_of HT_.out (by kernel_rfl)) (fun _ _ _ h => h) (Or.inr ⟨by rfl, rfl⟩) ?_ ?_
        rotate_left
        ·simp only [Act.put, sT, sZ, sS, i64_w, i32_w]
         rfl
        refine pure_ (i := 11) (N := some 23) (v := undef) (a' := ?_) (tf 12 5) rfl rfl (any_of HT_.out (by kernel_rfl)) (fun _ _ _ h => h) (Or.inr ⟨by rfl, rfl⟩) ?_ ?_
        rotate_left
        ·simp only [Act.put, sT, sZ, sS, i64_w, i32_w]
         rfl
        refine pure_ (i := 12) (N := some 24) (v := undef) (a' := ?_) (tf 13 4) rfl rfl (any_of HT_.out (by kernel_rfl)) (fun _ _ _ h => h) (Or.inr ⟨by rfl, rfl⟩) ?_ ?_
        rotate_left
        ·simp only [Act.put, sT, sZ, sS, i64_w, i32_w]
         rfl
        refine pure_ (i := 13) (N := some 25) (v := undef) (a' := ?_) (tf 14 3) rfl rfl (any_of HT_.out (by kernel_rfl)) (fun _ _ _ h => h) (Or.inr ⟨by rfl, rfl⟩) ?_ ?_
        rotate_left
        ·simp only [Act.put, sT, sZ, sS, i64_w, i32_w]
         rfl
        refine pure_ (i := 14) (N := some 26) (v := undef) (a' := ?_) (tf 15 2) rfl rfl (any_of HT_.out (by kernel_rfl)) (fun _ _ _ h => h) (Or.inr ⟨by rfl, rfl⟩) ?_ ?_
        rotate_left
        ·simp only [Act.put, sT, sZ, sS, i64_w, i32_w]
         rfl
        refine pure_ (i := 15) (N := some 27) (v := ?_) (a' := ?_) (tf 16 1) rfl rfl (any_of HT_.out (by kernel_rfl)) (fun _ _ _ h => h) (Or.inl ⟨by rfl, ?_⟩) ?_ ?_
        rotate_left; · intro w'; go_simp; with_reducible rfl
        rotate_left; · simp only [Act.put, sT, sZ, sS, i64_w, i32_w]; rfl
        refine pure_ (i := 16) (N := some 28) (v := ?_) (a' := ?_) (tf 17 0) rfl rfl (any_of HT_.out (by kernel_rfl)) (fun _ _ _ h => h) (Or.inl ⟨by rfl, ?_⟩) ?_ ?_
        rotate_left; · intro w'; go_simp; with_reducible rfl
        rotate_left; · simp only [Act.put, sT, sZ, sS, i64_w, i32_w]; rfl
        refine done_ (done_of HT_.out (by kernel_rfl)) ?_
        try go_wp2
        go_roundg k1
        case measure => have := HK1.out; omega
        case rel => exact ⟨(wrap64 (x7_1 + 1)), rG, H', ⟨by have := HK1.out; omega⟩, ⟨by repeat (first|(with_reducible first|exact HB.out|apply zA|apply zN|apply zD | refine below_set ?_ GE319.out) | exact HB.out)⟩⟩
      ·replace c6 := Bool.eq_false_iff.mpr c6
       subst c6
       rw [if_neg (show ¬ (false = true) by decide)] at H
       obtain rfl := Option.some.inj H
       have p318 : 0 ≤ (x7_1 : Int) := odt
       have q318 : x7_1 < (l0.length : Int) := odt
       obtain ⟨ad318, e318, hx318_0, hx318_1, hx318_2, hx318_3⟩ := at_T75 HR0.out x7_1 p318 q318
       cases e318
       replace hx318_0 := pw_cell_below HB.out hx318_0
       replace hx318_1 := pw_cell_below HB.out hx318_1
       replace hx318_2 := pw_cell_below HB.out hx318_2
       replace hx318_3 := pw_cell_below HB.out hx318_3
       replace p318 := eq_true p318
       replace q318 := eq_true q318
       try go_wp2_with (first | ((with_reducible refine gate_dst (N := 4) rfl ?_); refine box_event ?hg (N := 4) ?hd (cs := #[.string (⟨#[]⟩ : ByteArray), .string (⟨#[]⟩ : ByteArray), .string (⟨#[]⟩ : ByteArray), .string (⟨#[]⟩ : ByteArray)]) (t := 75) ?hr ?_; (case hd => rfl); (case hg => rfl); (case hr => first | (go_simp; done) | (go_simp; rfl)); intro gb319 hg w24 hbox hb; have BK319 := Aside0.mk (hbox); have GW319 := Aside0.mk ((by rw [hg]; exact (below_size (by repeat (first|(with_reducible first|exact HB.out|apply zA|apply zN|apply zD) | exact HB.out))) : w.heap.size ≤ gb319)); have GE319 := Aside0.mk ((by rw [hg]; exact (below_size (by repeat (first|(with_reducible first|exact HB.out|apply zA|apply zN|apply zD) | exact HB.out))) : w.heap.size ≤ gb319)); replace HB := Aside0.mk (below_step (by repeat (first|(with_reducible first|exact HB.out|apply zA|apply zN|apply zD) | exact HB.out)) hb); clear hb hbox hg; obtain ⟨hcz25_0, hcz25_1, hcz25_2, hcz25_3⟩ := bc4 BK319.out; obtain ⟨hfz25_0, hfz25_1, hfz25_2, hfz25_3⟩ := bf4 BK319.out))
       have n0_ : Aside0 (((((w24.setCell ⟨gb319, 0, none⟩ (.string ((rd_T75 l0 x7_1).f0))).setCell ⟨gb319, 1, none⟩ (.string ((rd_T75 l0 x7_1).f1))).setCell ⟨gb319, 2, none⟩ (.string ((rd_T75 l0 x7_1).f2))).setCell ⟨gb319, 3, none⟩ (.string ((rd_T75 l0 x7_1).f3))).heap[gb319]? = some (.cells #[.string ((rd_T75 l0 x7_1).f0), .string ((rd_T75 l0 x7_1).f1), .string ((rd_T75 l0 x7_1).f2), .string ((rd_T75 l0 x7_1).f3)] 75 (0, 0))) := ⟨by (with_reducible repeat (first | refine bN ?_ _|refine bD ?_|refine bA ?_ _)); exact put4 (by (with_reducible repeat (first | refine bN ?_ _|refine bD ?_|refine bA ?_ _)); exact BK319.out)⟩
       have n1_ : Aside0 (Below w.heap.size w ((((w24.setCell ⟨gb319, 0, none⟩ (.string ((rd_T75 l0 x7_1).f0))).setCell ⟨gb319, 1, none⟩ (.string ((rd_T75 l0 x7_1).f1))).setCell ⟨gb319, 2, none⟩ (.string ((rd_T75 l0 x7_1).f2))).setCell ⟨gb319, 3, none⟩ (.string ((rd_T75 l0 x7_1).f3)))) := ⟨by repeat (first|(with_reducible first|exact HB.out|apply zA|apply zN|apply zD | refine below_set ?_ GE319.out) | exact HB.out)⟩
       (try clear BK319)
       (try clear HB)
       generalize ((((w24.setCell ⟨gb319, 0, none⟩ (.string ((rd_T75 l0 x7_1).f0))).setCell ⟨gb319, 1, none⟩ (.string ((rd_T75 l0 x7_1).f1))).setCell ⟨gb319, 2, none⟩ (.string ((rd_T75 l0 x7_1).f2))).setCell ⟨gb319, 3, none⟩ (.string ((rd_T75 l0 x7_1).f3))) = w26 at n0_ n1_ ⊢
       have BK319 := n0_
       have HB := n1_
       clear n0_ n1_
       replace BK319 := Aside0.mk (blk_drew BK319.out)
       replace HB := Aside0.mk (below_drew1 HB.out)
       refine start_ (n := 17) (S := fun w' => w'.cell? ⟨gb319, 0, none⟩ = some (.string ((rd_T75 l0 x7_1).f0)) ∧ w'.cell? ⟨gb319, 1, none⟩ = some (.string ((rd_T75 l0 x7_1).f1)) ∧ w'.cell? ⟨gb319, 2, none⟩ = some (.string ((rd_T75 l0 x7_1).f2)) ∧ w'.cell? ⟨gb319, 3, none⟩ = some (.string ((rd_T75 l0 x7_1).f3))) (ds := []) #[false, false, false, false, false, false, false, false, false, false, false, false, false, false, false, false, false] (by kernel_rfl) rfl rfl ⟨(blk_cell BK319.out 0).trans rfl, (blk_cell BK319.out 1).trans rfl, (blk_cell BK319.out 2).trans rfl, (blk_cell BK319.out 3).trans rfl⟩ (fun hHeld => ?_); refine with_tabW impl_attrsOk.tab4 impl_attrsOk.bits4 (fun HT_ HW_ => ?_)
       generalize w26.drew = w27 at BK319 HB hHeld ⊢
       refine take_ (i := 0) (N := some 12) (v := ?_) (a' := ?_) (tf 1 16) rfl rfl (take_ofW HT_.out HW_.out (by kernel_rfl)) (fun _ _ _ h => h) (Or.inl ⟨by rfl, ?_⟩) hHeld ?_ ?_
       rotate_left
       ·rintro w' ⟨s0, s1, s2, s3⟩
        go_simp
        with_reducible rfl
       rotate_left
       ·simp only [Act.put, sT, sZ, sS, i64_w, i32_w]
        rfl
       refine one_ (i := 1) (N := some 13) (tf 2 15) rfl rfl (one_of HT_.out (by kernel_rfl)) (by decide) (fun K hK => ?_)
       refine goes_ Tryz.func125 (by kernel_rfl) rfl #[.agg #[.string ((rd_T75 l0 x7_1).f0), .string ((rd_T75 l0 x7_1).f1), .string ((rd_T75 l0 x7_1).f2), .string ((rd_T75 l0 x7_1).f3)]] (by rfl) rfl rfl (by (try simp only [List.map_toArray, List.map_cons, List.map_nil]); first | done | rfl | (simp only [List.length_drop, List.length_take]; rfl)) ?_
       with_reducible refine (impl_attrOk.calls k1 ((rd_T75 l0 x7_1).f0) ((rd_T75 l0 x7_1).f1) ((rd_T75 l0 x7_1).f2) ((rd_T75 l0 x7_1).f3) false _ ?tabs A5.out).mono ?_
       case tabs => first | exact Tabs.below HT.out (by repeat (first|(with_reducible first|exact HB.out|apply zA|apply zN|apply zD | refine below_set ?_ GE319.out) | exact HB.out)) | (repeat (first | exact HT.out | (with_reducible refine Tabs.drewN ?_ _) | (with_reducible refine Tabs.drew ?_) | (with_reducible refine Tabs.alloc ?_ _)))
       rintro e w28 ⟨rfl, hb⟩
       refine ⟨_, rfl, ?_⟩
       replace BK319 := Aside0.mk (blk_below (g := gb319) (by (with_reducible repeat (first | refine bN ?_ _|refine bD ?_|refine bA ?_ _)); exact BK319.out) hb)
       replace HB := Aside0.mk (below_step (by repeat (first|(with_reducible first|exact HB.out|apply zA|apply zN|apply zD | refine below_set ?_ GE319.out) | exact HB.out)) hb)
       (try clear hb)
       (try clear hb2)
       (try clear hk)
       (try clear hi)
       refine hK.out _ _ ⟨(blk_cell BK319.out 0).trans rfl, (blk_cell BK319.out 1).trans rfl, (blk_cell BK319.out 2).trans rfl, (blk_cell BK319.out 3).trans rfl⟩ (fun hHeld => ?_)
       clear hK K
       refine norm_ (a' := ?_) ?_ ?_
       rotate_left
       ·show Act.put _ (some 13) _ = _
        simp only [Act.put, sT, sZ, sS, i64_w, i32_w]
        rfl
       refine pure_ (i := 2) (N := some 14) (v := ?_) (a' := ?_) (tf 3 14) rfl rfl (any_of HT_.out (by kernel_rfl)) (fun _ _ _ h => h) (Or.inl ⟨by rfl, ?_⟩) ?_ ?_
       rotate_left; · intro w'; go_simp; with_reducible rfl
       rotate_left; · simp only [Act.put, sT, sZ, sS, i64_w, i32_w]; rfl
       refine pure_ (i := 3) (N := some 15) (v := ?_) (a' := ?_) (tf 4 13) rfl rfl (any_of HT_.out (by kernel_rfl)) (fun _ _ _ h => h) (Or.inl ⟨by rfl, ?_⟩) ?_ ?_
       rotate_left; · intro w'; go_simp; with_reducible rfl
       rotate_left; · simp only [Act.put, sT, sZ, sS, i64_w, i32_w]; rfl
       refine pure_ (i := 4) (N := some 16) (v := undef) (a' := ?_) (tf 5 12) rfl rfl (any_of HT_.out (by kernel_rfl)) (fun _ _ _ h => h) (Or.inr ⟨by rfl, rfl⟩) ?_ ?_
       rotate_left
       ·simp only [Act.put, sT, sZ, sS, i64_w, i32_w]
        rfl
       refine pure_ (i := 5) (N := some 17) (v := undef) (a' := ?_) (tf 6 11) rfl rfl (any_of HT_.out (by kernel_rfl)) (fun _ _ _ h => h) (Or.inr ⟨by rfl, rfl⟩) ?_ ?_
       rotate_left
       ·simp only [Act.put, sT, sZ, sS, i64_w, i32_w]
        rfl
       refine pure_ (i := 6) (N := some 18) (v := undef) (a' := ?_) (tf 7 10) rfl rfl (any_of HT_.out (by kernel_rfl)) (fun _ _ _ h => h) (Or.inr ⟨by rfl, rfl⟩) ?_ ?_
       rotate_left
       ·simp only [Act.put, sT, sZ, sS, i64_w, i32_w]
        rfl
       refine pure_ (i := 7) (N := some 19) (v := undef) (a' := ?_) (tf 8 9) rfl rfl (any_of HT_.out (by kernel_rfl)) (fun _ _ _ h => h) (Or.inr ⟨by rfl, rfl⟩) ?_ ?_
       rotate_left
       ·simp only [Act.put, sT, sZ, sS, i64_w, i32_w]
        rfl
       refine pure_ (i := 8) (N := some 20) (v := undef) (a' := ?_) (tf 9 8) rfl rfl (any_of HT_.out (by kernel_rfl)) (fun _ _ _ h => h) (Or.inr ⟨by rfl, rfl⟩) ?_ ?_
       rotate_left
       ·simp only [Act.put, sT, sZ, sS, i64_w, i32_w]
        rfl
       refine pure_ (i := 9) (N := some 21) (v := undef) (a' := ?_) (tf 10 7) rfl rfl (any_of HT_.out (by kernel_rfl)) (fun _ _ _ h => h) (Or.inr ⟨by rfl, rfl⟩) ?_ ?_
       rotate_left
       ·simp only [Act.put, sT, sZ, sS, i64_w, i32_w]
        rfl
       refine pure_ (i := 10) (N := some 22) (v := undef) (a' := ?_) (tf 11 6) rfl rfl (any_of HT_.out (by kernel_rfl)) (fun _ _ _ h => h) (Or.inr ⟨by rfl, rfl⟩) ?_ ?_
       rotate_left
       ·simp only [Act.put, sT, sZ, sS, i64_w, i32_w]
        rfl
       refine pure_ (i := 11) (N := some 23) (v := undef) (a' := ?_) (tf 12 5) rfl rfl (any_of HT_.out (by kernel_rfl)) (fun _ _ _ h => h) (Or.inr ⟨by rfl, rfl⟩) ?_ ?_
       rotate_left
       ·simp only [Act.put, sT, sZ, sS, i64_w, i32_w]
        rfl
       refine pure_ (i := 12) (N := some 24) (v := undef) (a' := ?_) (tf 13 4) rfl rfl (any_of HT_.out (by kernel_rfl)) (fun _ _ _ h => h) (Or.inr ⟨by rfl, rfl⟩) ?_ ?_
       rotate_left
       ·simp only [Act.put, sT, sZ, sS, i64_w, i32_w]
        rfl
       refine pure_ (i := 13) (N := some 25) (v := undef) (a' := ?_) (tf 14 3) rfl rfl (any_of HT_.out (by kernel_rfl)) (fun _ _ _ h => h) (Or.inr ⟨by rfl, rfl⟩) ?_ ?_
       rotate_left
       ·simp only [Act.put, sT, sZ, sS, i64_w, i32_w]
        rfl
       refine pure_ (i := 14) (N := some 26) (v := undef) (a' := ?_) (tf 15 2) rfl rfl (any_of HT_.out (by kernel_rfl)) (fun _ _ _ h => h) (Or.inr ⟨by rfl, rfl⟩) ?_ ?_
       rotate_left
       ·simp only [Act.put, sT, sZ, sS, i64_w, i32_w]
        rfl
       refine pure_ (i := 15) (N := some 27) (v := undef) (a' := ?_) (tf 16 1) rfl rfl (any_of HT_.out (by kernel_rfl)) (fun _ _ _ h => h) (Or.inr ⟨by rfl, rfl⟩) ?_ ?_
       rotate_left
       ·simp only [Act.put, sT, sZ, sS, i64_w, i32_w]
        rfl
       refine pure_ (i := 16) (N := some 28) (v := ?_) (a' := ?_) (tf 17 0) rfl rfl (any_of HT_.out (by kernel_rfl)) (fun _ _ _ h => h) (Or.inl ⟨by rfl, ?_⟩) ?_ ?_
       rotate_left; · intro w'; go_simp; with_reducible rfl
       rotate_left; · simp only [Act.put, sT, sZ, sS, i64_w, i32_w]; rfl
       refine done_ (done_of HT_.out (by kernel_rfl)) ?_
       try go_wp2
       go_ret
       exact ⟨rE, by repeat (first|(with_reducible first|exact HB.out|apply zA|apply zN|apply zD | refine below_set ?_ GE319.out) | exact HB.out)⟩
     ·rw [if_neg c4] at H
      exact absurd H (by simp)
    ·rw [if_neg c3] at H
     exact absurd H (by simp)
   ·rw [if_neg c2] at H
    have c2b0 : decide (x7_1 < (l0.length : Int)) = false := decide_eq_false c2
    clear c2
    obtain rfl := Option.some.inj H
    go_wp2
    go_ret
    exact ⟨rE, by repeat (first|(with_reducible first|exact HB.out|apply zA|apply zN|apply zD) | exact HB.out)⟩

/-! ### impl_noTwoTexts: function 94 -/
def impl_noTwoTexts.l0 : Nat → List (S33) → List (S33) → Int → Int → Option (Bool)
 | 0, _, _, _, _ => none
 | k + 1, x0, x5, x6, x7 => if x7 < x6 then (if 0 ≤ x7 then (if x7 < (x5.length : Int) then (if x7 > 0 then (if ((rd_T33 x5 x7).f0) = 2 then (if 0 ≤ (wrap64 (x7 - 1)) then (if (wrap64 (x7 - 1)) < (x0.length : Int) then (if ((rd_T33 x0 (wrap64 (x7 - 1))).f0) = 2 then (some false) else (impl_noTwoTexts.l0 k x0 x5 x6 (wrap64 (x7 + 1)))) else (none)) else (none)) else (impl_noTwoTexts.l0 k x0 x5 x6 (wrap64 (x7 + 1)))) else (impl_noTwoTexts.l0 k x0 x5 x6 (wrap64 (x7 + 1)))) else (none)) else (none)) else (some true)
def impl_noTwoTexts.f (k : Nat) (l0 : List (S33)) : Option (Bool) := impl_noTwoTexts.l0 k l0 l0 (l0.length : Int) 0
theorem impl_noTwoTexts.mono_l : ∀ k, (∀ y0 y1 y2 y3, LeO (impl_noTwoTexts.l0 k y0 y1 y2 y3) (impl_noTwoTexts.l0 (k + 1) y0 y1 y2 y3))
 | 0 => fun _ _ _ _ r h => by simp [impl_noTwoTexts.l0] at h
 | k + 1 => by
  have ih0 := impl_noTwoTexts.mono_l k
  ·intro y0 y1 y2 y3
   unfold impl_noTwoTexts.l0
   repeat' first
   | (with_reducible exact ih0 _ _ _ _)
   | (with_reducible exact LeO.refl _)
   | (with_reducible exact LeO.none _)
   | (with_reducible refine LeO.ite ?_ ?_)
   | (with_reducible refine LeO.bind ?_ (fun _ => ?_))
   | exact ih0 _ _ _ _
   | exact LeO.none _
   | refine LeO.ite ?_ ?_
   | refine LeO.bind ?_ (fun _ => ?_)
theorem impl_noTwoTexts.mono : ∀ a0 k, LeO (impl_noTwoTexts.f k a0) (impl_noTwoTexts.f (k + 1) a0) := by
 intro a0 k
 have ih0 := impl_noTwoTexts.mono_l k
 unfold impl_noTwoTexts.f
 repeat' first
   | (with_reducible exact ih0 _ _ _ _)
   | (with_reducible exact LeO.refl _)
   | (with_reducible exact LeO.none _)
   | (with_reducible refine LeO.ite ?_ ?_)
   | (with_reducible refine LeO.bind ?_ (fun _ => ?_))
   | exact ih0 _ _ _ _
   | exact LeO.none _
   | refine LeO.ite ?_ ?_
   | refine LeO.bind ?_ (fun _ => ?_)
theorem impl_noTwoTexts.calls (k : Nat) (A0 : Option Addr) (c0 : Nat) (l0 : List (S33)) (r : Bool) (w : World) (hr0 : Kd.C k33 w A0 l0.length l0) (hc0 : l0.length ≤ c0) (h : impl_noTwoTexts.f k l0 = some r) :
  Calls Tryz.prog 94 #[.slice A0 l0.length c0] w fun e w' => e = .returned (.bool r) ∧ Below w.heap.size w w' := by
 have hu33 := Tryz.underlying33
 have HR0 := Aside0.mk hr0
 have HC0 := Aside0.mk hc0
 clear hr0 hc0
 have HB := Aside0.mk (Below.refl w.heap.size w)
 have H : (impl_noTwoTexts.l0 k l0 l0 (l0.length : Int) 0) = some r := h
 clear h
 have H' := Aside0.mk H
 clear H
 go_enter Tryz.func94, Tryz.ntmps94
 go_wp2
 go_loopg [7] k (fun kq v7 w' => ∃ (x7_1 : Int), v7 = .int .i64 x7_1 ∧ Aside0 (impl_noTwoTexts.l0 kq l0 l0 (l0.length : Int) x7_1 = some r) ∧ Aside0 (kq ≤ k) ∧ Aside0 (Below w.heap.size w w'))
 case atStart => exact ⟨(0), rG, H', ⟨Nat.le_refl _⟩, ⟨by repeat (first|(with_reducible first|exact HB.out|apply zA|apply zN|apply zD) | exact HB.out)⟩⟩
 case round =>
  clear H'
  obtain ⟨x7_1, rfl, HA, HK1, HB⟩ := hrel
  cases gk with
  | zero => exact absurd HA.out (by simp [impl_noTwoTexts.l0])
  | succ k1 =>
   have H := HA.out
   clear HA
   simp only [impl_noTwoTexts.l0] at H
   by_cases c2 : x7_1 < (l0.length : Int)
   ·rw [if_pos c2] at H
    have c2b0 : decide (x7_1 < (l0.length : Int)) = true := decide_eq_true c2
    clear c2
    by_cases c3 : 0 ≤ x7_1
    ·rw [if_pos c3] at H
     have c3b0 : decide (0 ≤ x7_1) = true := decide_eq_true c3
     clear c3
     by_cases c4 : x7_1 < (l0.length : Int)
     ·rw [if_pos c4] at H
      have c4b0 : decide (x7_1 < (l0.length : Int)) = true := decide_eq_true c4
      clear c4
      have p323 : 0 ≤ (x7_1 : Int) := odt
      have q323 : x7_1 < (l0.length : Int) := odt
      obtain ⟨ad323, A323_4, c323_4, A323_5, c323_5, A323_6, c323_6, e323, hx323_0, hx323_1, hx323_2, hx323_3, hx323_4, hx323_5, hx323_6, hx323_7, hl323_4, hi323_4, hl323_5, hi323_5, hl323_6, hi323_6⟩ := at_T33 HR0.out x7_1 p323 q323
      cases e323
      replace hx323_0 := pw_cell_below HB.out hx323_0
      replace hx323_1 := pw_cell_below HB.out hx323_1
      replace hx323_2 := pw_cell_below HB.out hx323_2
      replace hx323_3 := pw_cell_below HB.out hx323_3
      replace hx323_4 := pw_cell_below HB.out hx323_4
      replace hx323_5 := pw_cell_below HB.out hx323_5
      replace hx323_6 := pw_cell_below HB.out hx323_6
      replace hx323_7 := pw_cell_below HB.out hx323_7
      have HR323_4 := Aside0.mk hi323_4
      have HC323_4 := Aside0.mk hl323_4
      clear hi323_4 hl323_4
      have HR323_5 := Aside0.mk hi323_5
      have HC323_5 := Aside0.mk hl323_5
      clear hi323_5 hl323_5
      have HR323_6 := Aside0.mk hi323_6
      have HC323_6 := Aside0.mk hl323_6
      clear hi323_6 hl323_6
      replace p323 := eq_true p323
      replace q323 := eq_true q323
      go_wp2_with (first | ((with_reducible refine gate_dst (N := 4) rfl ?_); refine box_event ?hg (N := 4) ?hd (cs := #[.int .i64 0, .string (⟨#[]⟩ : ByteArray), .string (⟨#[]⟩ : ByteArray), .string (⟨#[]⟩ : ByteArray), .slice none 0 0, .slice none 0 0, .slice none 0 0, .string (⟨#[]⟩ : ByteArray)]) (t := 33) ?hr ?_; (case hd => rfl); (case hg => rfl); (case hr => first | (go_simp; done) | (go_simp; rfl)); intro gb324 hg w5 hbox hb; have BK324 := Aside0.mk (hbox); have GW324 := Aside0.mk ((by rw [hg]; exact (below_size (by repeat (first|(with_reducible first|exact HB.out|apply zA|apply zN|apply zD) | exact HB.out))) : w.heap.size ≤ gb324)); have GE324 := Aside0.mk ((by rw [hg]; exact (below_size (by repeat (first|(with_reducible first|exact HB.out|apply zA|apply zN|apply zD) | exact HB.out))) : w.heap.size ≤ gb324)); replace HB := Aside0.mk (below_step (by repeat (first|(with_reducible first|exact HB.out|apply zA|apply zN|apply zD) | exact HB.out)) hb); clear hb hbox hg; obtain ⟨hcz6_0, hcz6_1, hcz6_2, hcz6_3, hcz6_4, hcz6_5, hcz6_6, hcz6_7⟩ := bc8 BK324.out; obtain ⟨hfz6_0, hfz6_1, hfz6_2, hfz6_3, hfz6_4, hfz6_5, hfz6_6, hfz6_7⟩ := bf8 BK324.out; refine halt_ ?_; intro q_ hq_))
      obtain ⟨rfl⟩ := hq_
      by_cases c7 : x7_1 > 0
      ·rw [if_pos c7] at H
       have c7b0 : decide (0 < x7_1) = true := decide_eq_true c7
       clear c7
       by_cases c8 : ((rd_T33 l0 x7_1).f0) = 2
       ·rw [if_pos c8] at H
        have c8b0 : (((rd_T33 l0 x7_1).f0) == 2) = true := beq_iff_eq.mpr c8
        have c8b1 : (((rd_T33 l0 x7_1).f0) != 2) = false := bne_eq_false_iff_eq.mpr c8
        clear c8
        obtain ⟨ji9, hji9⟩ : ∃ j_ : Int, (wrap64 (x7_1 - 1)) = j_ := ⟨_, rfl⟩
        replace H : (if 0 ≤ (ji9) then (if (ji9) < (l0.length : Int) then (if ((rd_T33 l0 (ji9)).f0) = 2 then (some false) else (impl_noTwoTexts.l0 k1 l0 l0 (l0.length : Int) (wrap64 (x7_1 + 1)))) else (none)) else (none)) = some r := by first | (rw [hji9] at H; exact H) | (simp only [hji9] at H ⊢; exact H)
        have hji9w : (IntKind.i64.wrap (x7_1 - 1)) = ji9 := (i64_w _).trans hji9
        by_cases c10 : 0 ≤ (ji9)
        ·rw [if_pos c10] at H
         have c10b0 : decide (0 ≤ (ji9)) = true := decide_eq_true c10
         clear c10
         by_cases c11 : (ji9) < (l0.length : Int)
         ·rw [if_pos c11] at H
          have c11b0 : decide ((ji9) < (l0.length : Int)) = true := decide_eq_true c11
          clear c11
          by_cases c12 : ((rd_T33 l0 (ji9)).f0) = 2
          ·rw [if_pos c12] at H
           have c12b0 : (((rd_T33 l0 (ji9)).f0) == 2) = true := beq_iff_eq.mpr c12
           have c12b1 : (((rd_T33 l0 (ji9)).f0) != 2) = false := bne_eq_false_iff_eq.mpr c12
           clear c12
           obtain rfl := Option.some.inj H
           obtain ⟨hcz13_0, hcz13_1, hcz13_2, hcz13_3, hcz13_4, hcz13_5, hcz13_6, hcz13_7⟩ := bc8 BK324.out
           obtain ⟨hfz13_0, hfz13_1, hfz13_2, hfz13_3, hfz13_4, hfz13_5, hfz13_6, hfz13_7⟩ := bf8 BK324.out
           have p325 : 0 ≤ ((ji9) : Int) := odt
           have q325 : (ji9) < (l0.length : Int) := odt
           obtain ⟨ad325, A325_4, c325_4, A325_5, c325_5, A325_6, c325_6, e325, hx325_0, hx325_1, hx325_2, hx325_3, hx325_4, hx325_5, hx325_6, hx325_7, hl325_4, hi325_4, hl325_5, hi325_5, hl325_6, hi325_6⟩ := at_T33 HR0.out (ji9) p325 q325
           obtain rfl : ad323 = ad325 := (by injection e325)
           have hn325_0 : ad323.block ≠ gb324 := Nat.ne_of_lt (Nat.lt_of_lt_of_le (by have := World.block_lt_of_cell? _ _ hx325_0; first | rwa [add_block] at this | exact this) GW324.out)
           have hn325_1 : ad323.block ≠ gb324 := Nat.ne_of_lt (Nat.lt_of_lt_of_le (by have := World.block_lt_of_cell? _ _ hx325_0; first | rwa [add_block] at this | exact this) GW324.out)
           have hn325_2 : ad323.block ≠ gb324 := Nat.ne_of_lt (Nat.lt_of_lt_of_le (by have := World.block_lt_of_cell? _ _ hx325_0; first | rwa [add_block] at this | exact this) GW324.out)
           have hn325_3 : ad323.block ≠ gb324 := Nat.ne_of_lt (Nat.lt_of_lt_of_le (by have := World.block_lt_of_cell? _ _ hx325_0; first | rwa [add_block] at this | exact this) GW324.out)
           have hn325_4 : ad323.block ≠ gb324 := Nat.ne_of_lt (Nat.lt_of_lt_of_le (by have := World.block_lt_of_cell? _ _ hx325_0; first | rwa [add_block] at this | exact this) GW324.out)
           have hn325_5 : ad323.block ≠ gb324 := Nat.ne_of_lt (Nat.lt_of_lt_of_le (by have := World.block_lt_of_cell? _ _ hx325_0; first | rwa [add_block] at this | exact this) GW324.out)
           have hn325_6 : ad323.block ≠ gb324 := Nat.ne_of_lt (Nat.lt_of_lt_of_le (by have := World.block_lt_of_cell? _ _ hx325_0; first | rwa [add_block] at this | exact this) GW324.out)
           have hn325_7 : ad323.block ≠ gb324 := Nat.ne_of_lt (Nat.lt_of_lt_of_le (by have := World.block_lt_of_cell? _ _ hx325_0; first | rwa [add_block] at this | exact this) GW324.out)
           replace hx325_0 := pw_cell_below HB.out hx325_0
           replace hx325_1 := pw_cell_below HB.out hx325_1
           replace hx325_2 := pw_cell_below HB.out hx325_2
           replace hx325_3 := pw_cell_below HB.out hx325_3
           replace hx325_4 := pw_cell_below HB.out hx325_4
           replace hx325_5 := pw_cell_below HB.out hx325_5
           replace hx325_6 := pw_cell_below HB.out hx325_6
           replace hx325_7 := pw_cell_below HB.out hx325_7
           have HR325_4 := Aside0.mk hi325_4
           have HC325_4 := Aside0.mk hl325_4
           clear hi325_4 hl325_4
           have HR325_5 := Aside0.mk hi325_5
           have HC325_5 := Aside0.mk hl325_5
           clear hi325_5 hl325_5
           have HR325_6 := Aside0.mk hi325_6
           have HC325_6 := Aside0.mk hl325_6
           clear hi325_6 hl325_6
           replace hx325_0 := cf8 (.int .i64 ((rd_T33 l0 x7_1).f0)) (.string ((rd_T33 l0 x7_1).f1)) (.string ((rd_T33 l0 x7_1).f2)) (.string ((rd_T33 l0 x7_1).f3)) (.slice A323_4 ((rd_T33 l0 x7_1).f4).length c323_4) (.slice A323_5 ((rd_T33 l0 x7_1).f5).length c323_5) (.slice A323_6 ((rd_T33 l0 x7_1).f6).length c323_6) (.string ((rd_T33 l0 x7_1).f7)) (by first | (rw [add_block]; exact hn325_0) | (show (Addr.add _ _).block ≠ _; rw [add_block]; exact hn325_0) | exact hn325_0) hx325_0
           replace hx325_1 := cf8 (.int .i64 ((rd_T33 l0 x7_1).f0)) (.string ((rd_T33 l0 x7_1).f1)) (.string ((rd_T33 l0 x7_1).f2)) (.string ((rd_T33 l0 x7_1).f3)) (.slice A323_4 ((rd_T33 l0 x7_1).f4).length c323_4) (.slice A323_5 ((rd_T33 l0 x7_1).f5).length c323_5) (.slice A323_6 ((rd_T33 l0 x7_1).f6).length c323_6) (.string ((rd_T33 l0 x7_1).f7)) (by first | (rw [add_block]; exact hn325_0) | (show (Addr.add _ _).block ≠ _; rw [add_block]; exact hn325_0) | exact hn325_0) hx325_1
           replace hx325_2 := cf8 (.int .i64 ((rd_T33 l0 x7_1).f0)) (.string ((rd_T33 l0 x7_1).f1)) (.string ((rd_T33 l0 x7_1).f2)) (.string ((rd_T33 l0 x7_1).f3)) (.slice A323_4 ((rd_T33 l0 x7_1).f4).length c323_4) (.slice A323_5 ((rd_T33 l0 x7_1).f5).length c323_5) (.slice A323_6 ((rd_T33 l0 x7_1).f6).length c323_6) (.string ((rd_T33 l0 x7_1).f7)) (by first | (rw [add_block]; exact hn325_0) | (show (Addr.add _ _).block ≠ _; rw [add_block]; exact hn325_0) | exact hn325_0) hx325_2
           replace hx325_3 := cf8 (.int .i64 ((rd_T33 l0 x7_1).f0)) (.string ((rd_T33 l0 x7_1).f1)) (.string ((rd_T33 l0 x7_1).f2)) (.string ((rd_T33 l0 x7_1).f3)) (.slice A323_4 ((rd_T33 l0 x7_1).f4).length c323_4) (.slice A323_5 ((rd_T33 l0 x7_1).f5).length c323_5) (.slice A323_6 ((rd_T33 l0 x7_1).f6).length c323_6) (.string ((rd_T33 l0 x7_1).f7)) (by first | (rw [add_block]; exact hn325_0) | (show (Addr.add _ _).block ≠ _; rw [add_block]; exact hn325_0) | exact hn325_0) hx325_3
           replace hx325_4 := cf8 (.int .i64 ((rd_T33 l0 x7_1).f0)) (.string ((rd_T33 l0 x7_1).f1)) (.string ((rd_T33 l0 x7_1).f2)) (.string ((rd_T33 l0 x7_1).f3)) (.slice A323_4 ((rd_T33 l0 x7_1).f4).length c323_4) (.slice A323_5 ((rd_T33 l0 x7_1).f5).length c323_5) (.slice A323_6 ((rd_T33 l0 x7_1).f6).length c323_6) (.string ((rd_T33 l0 x7_1).f7)) (by first | (rw [add_block]; exact hn325_0) | (show (Addr.add _ _).block ≠ _; rw [add_block]; exact hn325_0) | exact hn325_0) hx325_4
           replace hx325_5 := cf8 (.int .i64 ((rd_T33 l0 x7_1).f0)) (.string ((rd_T33 l0 x7_1).f1)) (.string ((rd_T33 l0 x7_1).f2)) (.string ((rd_T33 l0 x7_1).f3)) (.slice A323_4 ((rd_T33 l0 x7_1).f4).length c323_4) (.slice A323_5 ((rd_T33 l0 x7_1).f5).length c323_5) (.slice A323_6 ((rd_T33 l0 x7_1).f6).length c323_6) (.string ((rd_T33 l0 x7_1).f7)) (by first | (rw [add_block]; exact hn325_0) | (show (Addr.add _ _).block ≠ _; rw [add_block]; exact hn325_0) | exact hn325_0) hx325_5
           replace hx325_6 := cf8 (.int .i64 ((rd_T33 l0 x7_1).f0)) (.string ((rd_T33 l0 x7_1).f1)) (.string ((rd_T33 l0 x7_1).f2)) (.string ((rd_T33 l0 x7_1).f3)) (.slice A323_4 ((rd_T33 l0 x7_1).f4).length c323_4) (.slice A323_5 ((rd_T33 l0 x7_1).f5).length c323_5) (.slice A323_6 ((rd_T33 l0 x7_1).f6).length c323_6) (.string ((rd_T33 l0 x7_1).f7)) (by first | (rw [add_block]; exact hn325_0) | (show (Addr.add _ _).block ≠ _; rw [add_block]; exact hn325_0) | exact hn325_0) hx325_6
           replace hx325_7 := cf8 (.int .i64 ((rd_T33 l0 x7_1).f0)) (.string ((rd_T33 l0 x7_1).f1)) (.string ((rd_T33 l0 x7_1).f2)) (.string ((rd_T33 l0 x7_1).f3)) (.slice A323_4 ((rd_T33 l0 x7_1).f4).length c323_4) (.slice A323_5 ((rd_T33 l0 x7_1).f5).length c323_5) (.slice A323_6 ((rd_T33 l0 x7_1).f6).length c323_6) (.string ((rd_T33 l0 x7_1).f7)) (by first | (rw [add_block]; exact hn325_0) | (show (Addr.add _ _).block ≠ _; rw [add_block]; exact hn325_0) | exact hn325_0) hx325_7
           clear hn325_0
           clear hn325_1
           clear hn325_2
           clear hn325_3
           clear hn325_4
           clear hn325_5
           clear hn325_6
           clear hn325_7
           replace p325 := eq_true p325
           replace q325 := eq_true q325
           go_wp2
           go_ret
           exact ⟨by first | rfl | (simp [errW_none, errW_some] <;> rfl) | (simp only [← hji9]; first | rfl | (simp [errW_none, errW_some] <;> rfl)) | (simp [*, errW_none, errW_some] <;> rfl), by repeat (first|(with_reducible first|exact HB.out|apply zA|apply zN|apply zD | refine below_set ?_ GE324.out) | exact HB.out)⟩
          ·rw [if_neg c12] at H
           have c12b0 : (((rd_T33 l0 (ji9)).f0) == 2) = false := beq_eq_false_iff_ne.mpr c12
           have c12b1 : (((rd_T33 l0 (ji9)).f0) != 2) = true := bne_iff_ne.mpr c12
           have H' := Aside0.mk H
           clear H
           obtain ⟨hcz14_0, hcz14_1, hcz14_2, hcz14_3, hcz14_4, hcz14_5, hcz14_6, hcz14_7⟩ := bc8 BK324.out
           obtain ⟨hfz14_0, hfz14_1, hfz14_2, hfz14_3, hfz14_4, hfz14_5, hfz14_6, hfz14_7⟩ := bf8 BK324.out
           have p325 : 0 ≤ ((ji9) : Int) := odt
           have q325 : (ji9) < (l0.length : Int) := odt
           obtain ⟨ad325, A325_4, c325_4, A325_5, c325_5, A325_6, c325_6, e325, hx325_0, hx325_1, hx325_2, hx325_3, hx325_4, hx325_5, hx325_6, hx325_7, hl325_4, hi325_4, hl325_5, hi325_5, hl325_6, hi325_6⟩ := at_T33 HR0.out (ji9) p325 q325
           obtain rfl : ad323 = ad325 := (by injection e325)
           have hn325_0 : ad323.block ≠ gb324 := Nat.ne_of_lt (Nat.lt_of_lt_of_le (by have := World.block_lt_of_cell? _ _ hx325_0; first | rwa [add_block] at this | exact this) GW324.out)
           have hn325_1 : ad323.block ≠ gb324 := Nat.ne_of_lt (Nat.lt_of_lt_of_le (by have := World.block_lt_of_cell? _ _ hx325_0; first | rwa [add_block] at this | exact this) GW324.out)
           have hn325_2 : ad323.block ≠ gb324 := Nat.ne_of_lt (Nat.lt_of_lt_of_le (by have := World.block_lt_of_cell? _ _ hx325_0; first | rwa [add_block] at this | exact this) GW324.out)
           have hn325_3 : ad323.block ≠ gb324 := Nat.ne_of_lt (Nat.lt_of_lt_of_le (by have := World.block_lt_of_cell? _ _ hx325_0; first | rwa [add_block] at this | exact this) GW324.out)
           have hn325_4 : ad323.block ≠ gb324 := Nat.ne_of_lt (Nat.lt_of_lt_of_le (by have := World.block_lt_of_cell? _ _ hx325_0; first | rwa [add_block] at this | exact this) GW324.out)
           have hn325_5 : ad323.block ≠ gb324 := Nat.ne_of_lt (Nat.lt_of_lt_of_le (by have := World.block_lt_of_cell? _ _ hx325_0; first | rwa [add_block] at this | exact this) GW324.out)
           have hn325_6 : ad323.block ≠ gb324 := Nat.ne_of_lt (Nat.lt_of_lt_of_le (by have := World.block_lt_of_cell? _ _ hx325_0; first | rwa [add_block] at this | exact this) GW324.out)
           have hn325_7 : ad323.block ≠ gb324 := Nat.ne_of_lt (Nat.lt_of_lt_of_le (by have := World.block_lt_of_cell? _ _ hx325_0; first | rwa [add_block] at this | exact this) GW324.out)
           replace hx325_0 := pw_cell_below HB.out hx325_0
           replace hx325_1 := pw_cell_below HB.out hx325_1
           replace hx325_2 := pw_cell_below HB.out hx325_2
           replace hx325_3 := pw_cell_below HB.out hx325_3
           replace hx325_4 := pw_cell_below HB.out hx325_4
           replace hx325_5 := pw_cell_below HB.out hx325_5
           replace hx325_6 := pw_cell_below HB.out hx325_6
           replace hx325_7 := pw_cell_below HB.out hx325_7
           have HR325_4 := Aside0.mk hi325_4
           have HC325_4 := Aside0.mk hl325_4
           clear hi325_4 hl325_4
           have HR325_5 := Aside0.mk hi325_5
           have HC325_5 := Aside0.mk hl325_5
           clear hi325_5 hl325_5
           have HR325_6 := Aside0.mk hi325_6
           have HC325_6 := Aside0.mk hl325_6
           clear hi325_6 hl325_6
           replace hx325_0 := cf8 (.int .i64 ((rd_T33 l0 x7_1).f0)) (.string ((rd_T33 l0 x7_1).f1)) (.string ((rd_T33 l0 x7_1).f2)) (.string ((rd_T33 l0 x7_1).f3)) (.slice A323_4 ((rd_T33 l0 x7_1).f4).length c323_4) (.slice A323_5 ((rd_T33 l0 x7_1).f5).length c323_5) (.slice A323_6 ((rd_T33 l0 x7_1).f6).length c323_6) (.string ((rd_T33 l0 x7_1).f7)) (by first | (rw [add_block]; exact hn325_0) | (show (Addr.add _ _).block ≠ _; rw [add_block]; exact hn325_0) | exact hn325_0) hx325_0
           replace hx325_1 := cf8 (.int .i64 ((rd_T33 l0 x7_1).f0)) (.string ((rd_T33 l0 x7_1).f1)) (.string ((rd_T33 l0 x7_1).f2)) (.string ((rd_T33 l0 x7_1).f3)) (.slice A323_4 ((rd_T33 l0 x7_1).f4).length c323_4) (.slice A323_5 ((rd_T33 l0 x7_1).f5).length c323_5) (.slice A323_6 ((rd_T33 l0 x7_1).f6).length c323_6) (.string ((rd_T33 l0 x7_1).f7)) (by first | (rw [add_block]; exact hn325_0) | (show (Addr.add _ _).block ≠ _; rw [add_block]; exact hn325_0) | exact hn325_0) hx325_1
           replace hx325_2 := cf8 (.int .i64 ((rd_T33 l0 x7_1).f0)) (.string ((rd_T33 l0 x7_1).f1)) (.string ((rd_T33 l0 x7_1).f2)) (.string ((rd_T33 l0 x7_1).f3)) (.slice A323_4 ((rd_T33 l0 x7_1).f4).length c323_4) (.slice A323_5 ((rd_T33 l0 x7_1).f5).length c323_5) (.slice A323_6 ((rd_T33 l0 x7_1).f6).length c323_6) (.string ((rd_T33 l0 x7_1).f7)) (by first | (rw [add_block]; exact hn325_0) | (show (Addr.add _ _).block ≠ _; rw [add_block]; exact hn325_0) | exact hn325_0) hx325_2
           replace hx325_3 := cf8 (.int .i64 ((rd_T33 l0 x7_1).f0)) (.string ((rd_T33 l0 x7_1).f1)) (.string ((rd_T33 l0 x7_1).f2)) (.string ((rd_T33 l0 x7_1).f3)) (.slice A323_4 ((rd_T33 l0 x7_1).f4).length c323_4) (.slice A323_5 ((rd_T33 l0 x7_1).f5).length c323_5) (.slice A323_6 ((rd_T33 l0 x7_1).f6).length c323_6) (.string ((rd_T33 l0 x7_1).f7)) (by first | (rw [add_block]; exact hn325_0) | (show (Addr.add _ _).block ≠ _; rw [add_block]; exact hn325_0) | exact hn325_0) hx325_3
           replace hx325_4 := cf8 (.int .i64 ((rd_T33 l0 x7_1).f0)) (.string ((rd_T33 l0 x7_1).f1)) (.string ((rd_T33 l0 x7_1).f2)) (.string ((rd_T33 l0 x7_1).f3)) (.slice A323_4 ((rd_T33 l0 x7_1).f4).length c323_4) (.slice A323_5 ((rd_T33 l0 x7_1).f5).length c323_5) (.slice A323_6 ((rd_T33 l0 x7_1).f6).length c323_6) (.string ((rd_T33 l0 x7_1).f7)) (by first | (rw [add_block]; exact hn325_0) | (show (Addr.add _ _).block ≠ _; rw [add_block]; exact hn325_0) | exact hn325_0) hx325_4
           replace hx325_5 := cf8 (.int .i64 ((rd_T33 l0 x7_1).f0)) (.string ((rd_T33 l0 x7_1).f1)) (.string ((rd_T33 l0 x7_1).f2)) (.string ((rd_T33 l0 x7_1).f3)) (.slice A323_4 ((rd_T33 l0 x7_1).f4).length c323_4) (.slice A323_5 ((rd_T33 l0 x7_1).f5).length c323_5) (.slice A323_6 ((rd_T33 l0 x7_1).f6).length c323_6) (.string ((rd_T33 l0 x7_1).f7)) (by first | (rw [add_block]; exact hn325_0) | (show (Addr.add _ _).block ≠ _; rw [add_block]; exact hn325_0) | exact hn325_0) hx325_5
           replace hx325_6 := cf8 (.int .i64 ((rd_T33 l0 x7_1).f0)) (.string ((rd_T33 l0 x7_1).f1)) (.string ((rd_T33 l0 x7_1).f2)) (.string ((rd_T33 l0 x7_1).f3)) (.slice A323_4 ((rd_T33 l0 x7_1).f4).length c323_4) (.slice A323_5 ((rd_T33 l0 x7_1).f5).length c323_5) (.slice A323_6 ((rd_T33 l0 x7_1).f6).length c323_6) (.string ((rd_T33 l0 x7_1).f7)) (by first | (rw [add_block]; exact hn325_0) | (show (Addr.add _ _).block ≠ _; rw [add_block]; exact hn325_0) | exact hn325_0) hx325_6
           replace hx325_7 := cf8 (.int .i64 ((rd_T33 l0 x7_1).f0)) (.string ((rd_T33 l0 x7_1).f1)) (.string ((rd_T33 l0 x7_1).f2)) (.string ((rd_T33 l0 x7_1).f3)) (.slice A323_4 ((rd_T33 l0 x7_1).f4).length c323_4) (.slice A323_5 ((rd_T33 l0 x7_1).f5).length c323_5) (.slice A323_6 ((rd_T33 l0 x7_1).f6).length c323_6) (.string ((rd_T33 l0 x7_1).f7)) (by first | (rw [add_block]; exact hn325_0) | (show (Addr.add _ _).block ≠ _; rw [add_block]; exact hn325_0) | exact hn325_0) hx325_7
           clear hn325_0
           clear hn325_1
           clear hn325_2
           clear hn325_3
           clear hn325_4
           clear hn325_5
           clear hn325_6
           clear hn325_7
           replace p325 := eq_true p325
           replace q325 := eq_true q325
           go_wp2
           go_roundg k1
           case measure => have := HK1.out; omega
           case rel => exact ⟨(wrap64 (x7_1 + 1)), rG, H', ⟨by have := HK1.out; omega⟩, ⟨by repeat (first|(with_reducible first|exact HB.out|apply zA|apply zN|apply zD | refine below_set ?_ GE324.out) | exact HB.out)⟩⟩
         ·rw [if_neg c11] at H
          exact absurd H (by simp)
        ·rw [if_neg c10] at H
         exact absurd H (by simp)
       ·rw [if_neg c8] at H
        have c8b0 : (((rd_T33 l0 x7_1).f0) == 2) = false := beq_eq_false_iff_ne.mpr c8
        have c8b1 : (((rd_T33 l0 x7_1).f0) != 2) = true := bne_iff_ne.mpr c8
        have H' := Aside0.mk H
        clear H
        obtain ⟨hcz15_0, hcz15_1, hcz15_2, hcz15_3, hcz15_4, hcz15_5, hcz15_6, hcz15_7⟩ := bc8 BK324.out
        obtain ⟨hfz15_0, hfz15_1, hfz15_2, hfz15_3, hfz15_4, hfz15_5, hfz15_6, hfz15_7⟩ := bf8 BK324.out
        go_wp2
        go_roundg k1
        case measure => have := HK1.out; omega
        case rel => exact ⟨(wrap64 (x7_1 + 1)), rG, H', ⟨by have := HK1.out; omega⟩, ⟨by repeat (first|(with_reducible first|exact HB.out|apply zA|apply zN|apply zD | refine below_set ?_ GE324.out) | exact HB.out)⟩⟩
      ·rw [if_neg c7] at H
       have c7b0 : decide (0 < x7_1) = false := decide_eq_false c7
       clear c7
       have H' := Aside0.mk H
       clear H
       go_wp2
       go_roundg k1
       case measure => have := HK1.out; omega
       case rel => exact ⟨(wrap64 (x7_1 + 1)), rG, H', ⟨by have := HK1.out; omega⟩, ⟨by repeat (first|(with_reducible first|exact HB.out|apply zA|apply zN|apply zD | refine below_set ?_ GE324.out) | exact HB.out)⟩⟩
     ·rw [if_neg c4] at H
      exact absurd H (by simp)
    ·rw [if_neg c3] at H
     exact absurd H (by simp)
   ·rw [if_neg c2] at H
    have c2b0 : decide (x7_1 < (l0.length : Int)) = false := decide_eq_false c2
    clear c2
    obtain rfl := Option.some.inj H
    go_wp2
    go_ret
    exact ⟨rE, by repeat (first|(with_reducible first|exact HB.out|apply zA|apply zN|apply zD) | exact HB.out)⟩

end Go.Proofs.YtlfjdaoibjjakaaGreatDoor.PT
