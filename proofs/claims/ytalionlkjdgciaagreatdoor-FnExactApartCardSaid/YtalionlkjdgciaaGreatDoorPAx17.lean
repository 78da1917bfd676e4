-- Written by the session's program hprint.py, over the kit's print program. Lean checks it.
import Derived.Test.YtalionlkjdgciaaGreatDoorPAx0
import Derived.Test.YtalionlkjdgciaaGreatDoorPAx13
import Derived.Test.YtalionlkjdgciaaGreatDoorPAx14
import Derived.Test.YtalionlkjdgciaaGreatDoorPAx16
namespace Go.Proofs.YtalionlkjdgciaaGreatDoor.PA
open Go.RowKit Go.Proofs.YtalionlkjdgciaaGreatDoorW.PrintWords Go.Proofs.YtalionlkjdgciaaGreatDoorW.PrintLast Go.Proofs.YtalionlkjdgciaaGreatDoorW.PrintMore
attribute [local go_sem] max2_int min2_int max_two min_two max_three min_three max_four min_four   -- for this text's walks alone
set_option linter.unusedVariables false
set_option linter.unusedSimpArgs false
set_option maxHeartbeats 8000000
set_option maxRecDepth 100000

/-! ### impl_partOk: function 43 -/
def impl_partOk.f := impl_kidsOk.part
theorem impl_partOk.calls (k : Nat) (a0_0 : Int) (a0_1 : ByteArray) (a0_2 : ByteArray) (a0_3 : ByteArray) (A0_4 : Option Addr) (c0_4 : Nat) (l0_4 : List S73) (A0_5 : Option Addr) (c0_5 : Nat) (l0_5 : List S68) (A0_6 : Option Addr) (c0_6 : Nat) (l0_6 : List S28) (a0_7 : ByteArray) (a1 : Int) (r : Bool) (w : World) (hr0_4 : Kd.C k73 w A0_4 l0_4.length l0_4) (hc0_4 : l0_4.length ≤ c0_4) (hr0_5 : Kd.C k68 w A0_5 l0_5.length l0_5) (hc0_5 : l0_5.length ≤ c0_5) (hr0_6 : Kd.C k28 w A0_6 l0_6.length l0_6) (hc0_6 : l0_6.length ≤ c0_6) (hTab : Tabs w) (h : impl_partOk.f k a0_0 a0_1 a0_2 a0_3 l0_4 l0_5 l0_6 a0_7 a1 = some r) :
    Calls Tryz.prog 43 #[.agg #[.int .i64 a0_0, .string a0_1, .string a0_2, .string a0_3, .slice A0_4 l0_4.length c0_4, .slice A0_5 l0_5.length c0_5, .slice A0_6 l0_6.length c0_6, .string a0_7], .int .i64 a1] w fun e w' => e = .returned (.bool r) ∧ Below w.heap.size w w' :=
  impl_kidsOk.part_calls k a0_0 a0_1 a0_2 a0_3 A0_4 c0_4 l0_4 A0_5 c0_5 l0_5 A0_6 c0_6 l0_6 a0_7 a1 r w hr0_4 hc0_4 hr0_5 hc0_5 hr0_6 hc0_6 hTab h

/-! ### impl_ofKind: function 44 -/
def impl_ofKind.l0 : Nat → Int → Int → List (S28) → Int → Int → Option (Int)
 | 0, _, _, _, _, _ => none
 | k + 1, x1, x5, x8, x9, x10 => if x10 < x9 then (if 0 ≤ x10 then (if x10 < (x8.length : Int) then (if ((rd_T28 x8 x10).f0) = x1 then (impl_ofKind.l0 k x1 (wrap64 (x5 + 1)) x8 x9 (wrap64 (x10 + 1))) else (impl_ofKind.l0 k x1 x5 x8 x9 (wrap64 (x10 + 1)))) else (none)) else (none)) else (some x5)
def impl_ofKind.f (k : Nat) (l0 : List (S28)) (a1 : Int) : Option (Int) := impl_ofKind.l0 k a1 0 l0 (l0.length : Int) 0
theorem impl_ofKind.calls (k : Nat) (A0 : Option Addr) (c0 : Nat) (l0 : List (S28)) (a1 : Int) (r : Int) (w : World) (hr0 : Kd.C k28 w A0 l0.length l0) (hc0 : l0.length ≤ c0) (h : impl_ofKind.f k l0 a1 = some r) :
  Calls Tryz.prog 44 #[.slice A0 l0.length c0, .int .i64 a1] w fun e w' => e = .returned (.int .i64 r) ∧ Below w.heap.size w w' := by
 have hu28 := Tryz.underlying28
 have HR0 := Aside0.mk hr0
 have HC0 := Aside0.mk hc0
 clear hr0 hc0
 have HB := Aside0.mk (Below.refl w.heap.size w)
 have H : (impl_ofKind.l0 k a1 0 l0 (l0.length : Int) 0) = some r := h
 clear h
 have H' := Aside0.mk H
 clear H
 go_enter Tryz.func44, Tryz.ntmps44
 go_wp2
 go_loopg [5, 10] k (fun kq v5 v10 w' => ∃ (x5_1 : Int) (x10_1 : Int), v5 = .int .i64 x5_1 ∧ v10 = .int .i64 x10_1 ∧ Aside0 (impl_ofKind.l0 kq a1 x5_1 l0 (l0.length : Int) x10_1 = some r) ∧ Aside0 (kq ≤ k) ∧ Aside0 (Below w.heap.size w w'))
 case atStart => exact ⟨(0), (0), rG, rG, H', ⟨Nat.le_refl _⟩, ⟨hB⟩⟩
 case round =>
  clear H'
  obtain ⟨x5_1, x10_1, rfl, rfl, HA, HK1, HB⟩ := hrel
  cases gk with
  | zero => exact absurd HA.out (by simp [impl_ofKind.l0])
  | succ k1 =>
   have H := HA.out
   clear HA
   simp only [impl_ofKind.l0] at H
   by_cases c3 : x10_1 < (l0.length : Int)
   ·rw [if_pos c3] at H
    have c3b0 : decide (x10_1 < (l0.length : Int)) = true := decide_eq_true c3
    clear c3
    obtain ⟨c4, H⟩ := if_som H
    have c4b0 : decide (0 ≤ x10_1) = true := decide_eq_true c4
    clear c4
    obtain ⟨c5, H⟩ := if_som H
    have c5b0 : decide (x10_1 < (l0.length : Int)) = true := decide_eq_true c5
    clear c5
    have p364 : 0 ≤ (x10_1 : Int) := odt
    have q364 : x10_1 < (l0.length : Int) := odt
    obtain ⟨ad364, A364_4, c364_4, A364_5, c364_5, A364_6, c364_6, e364, hx364_0, hx364_1, hx364_2, hx364_3, hx364_4, hx364_5, hx364_6, hx364_7, hl364_4, hi364_4, hl364_5, hi364_5, hl364_6, hi364_6⟩ := at_T28 HR0.out x10_1 p364 q364
    cases e364
    replace hx364_0 := pw_cell_below HB.out hx364_0
    replace hx364_1 := pw_cell_below HB.out hx364_1
    replace hx364_2 := pw_cell_below HB.out hx364_2
    replace hx364_3 := pw_cell_below HB.out hx364_3
    replace hx364_4 := pw_cell_below HB.out hx364_4
    replace hx364_5 := pw_cell_below HB.out hx364_5
    replace hx364_6 := pw_cell_below HB.out hx364_6
    replace hx364_7 := pw_cell_below HB.out hx364_7
    have HR364_4 := Aside0.mk hi364_4
    have HC364_4 := Aside0.mk hl364_4
    clear hi364_4 hl364_4
    have HR364_5 := Aside0.mk hi364_5
    have HC364_5 := Aside0.mk hl364_5
    clear hi364_5 hl364_5
    have HR364_6 := Aside0.mk hi364_6
    have HC364_6 := Aside0.mk hl364_6
    clear hi364_6 hl364_6
    replace p364 := eq_true p364
    replace q364 := eq_true q364
    go_wp2_with (first | ((with_reducible refine gate_dst (N := 7) rfl ?_); refine box_event ?hg (N := 7) ?hd (cs := #[.int .i64 0, .string (⟨#[]⟩ : ByteArray), .string (⟨#[]⟩ : ByteArray), .string (⟨#[]⟩ : ByteArray), .slice none 0 0, .slice none 0 0, .slice none 0 0, .string (⟨#[]⟩ : ByteArray)]) (t := 28) ?hr ?_; (case hd => rfl); (case hg => rfl); (case hr => first | (go_simp; done) | (go_simp; rfl)); intro gb365 hg w6 hbox hb; have BK365 := Aside0.mk (hbox); have GW365 := Aside0.mk ((by rw [hg]; exact (below_size hB) : w.heap.size ≤ gb365)); have GE365 := Aside0.mk ((by rw [hg]; exact (below_size hB) : w.heap.size ≤ gb365)); replace HB := Aside0.mk (below_step hB hb); clear hb hbox hg; obtain ⟨hcz7_0, hcz7_1, hcz7_2, hcz7_3, hcz7_4, hcz7_5, hcz7_6, hcz7_7⟩ := bc8 BK365.out; obtain ⟨hfz7_0, hfz7_1, hfz7_2, hfz7_3, hfz7_4, hfz7_5, hfz7_6, hfz7_7⟩ := bf8 BK365.out; refine halt_ ?_; intro q_ hq_))
    obtain ⟨rfl⟩ := hq_
    by_cases c8 : ((rd_T28 l0 x10_1).f0) = a1
    ·rw [if_pos c8] at H
     obtain ⟨c8b0, c8b1⟩ := eqT c8
     clear c8
     have H' := Aside0.mk H
     clear H
     go_wp2
     go_roundg k1
     case measure => have := HK1.out; omega
     case rel => exact ⟨(wrap64 (x5_1 + 1)), (wrap64 (x10_1 + 1)), rG, rG, H', ⟨by have := HK1.out; omega⟩, ⟨hB⟩⟩
    ·rw [if_neg c8] at H
     obtain ⟨c8b0, c8b1⟩ := eqF c8
     have H' := Aside0.mk H
     clear H
     go_wp2
     go_roundg k1
     case measure => have := HK1.out; omega
     case rel => exact ⟨(x5_1), (wrap64 (x10_1 + 1)), rG, rG, H', ⟨by have := HK1.out; omega⟩, ⟨hB⟩⟩
   ·rw [if_neg c3] at H
    have c3b0 : decide (x10_1 < (l0.length : Int)) = false := decide_eq_false c3
    clear c3
    obtain rfl := Option.some.inj H
    go_wp2
    go_ret
    exact ⟨rE, hB⟩

/-! ### impl_NodeOk: function 16 -/
def impl_NodeOk.f (k : Nat) (a0_0 : Int) (a0_1 : ByteArray) (a0_2 : ByteArray) (a0_3 : ByteArray) (l0_4 : List (S73)) (l0_5 : List (S68)) (l0_6 : List (S28)) (a0_7 : ByteArray) : Option (Bool) := (impl_CountOf.f k a0_0 a0_1 a0_2 a0_3 l0_4 l0_5 l0_6 a0_7).bind fun t367 => (if t367 > 60 then (some false) else (if a0_0 = 0 then (if a0_1.toList = ([] : List UInt8) then (if a0_2.toList = ([] : List UInt8) then (if a0_3.toList = ([] : List UInt8) then (if a0_7.toList = ([] : List UInt8) then (if (l0_4.length : Int) = 0 then (if (l0_5.length : Int) = 0 then ((impl_ofKind.f k l0_6 1).bind fun t368 => (if t368 = 1 then ((impl_ofKind.f k l0_6 2).bind fun t369 => (if t369 = 0 then ((impl_kidsOk.f k a0_0 a0_1 a0_2 a0_3 l0_4 l0_5 l0_6 a0_7 0).bind fun t370 => (some t370)) else (some false))) else (some false))) else (some false)) else (some false)) else (some false)) else (some false)) else (some false)) else (some false)) else ((impl_partOk.f k a0_0 a0_1 a0_2 a0_3 l0_4 l0_5 l0_6 a0_7 0).bind fun t371 => (some t371))))
theorem impl_NodeOk.calls (k : Nat) (a0_0 : Int) (a0_1 : ByteArray) (a0_2 : ByteArray) (a0_3 : ByteArray) (A0_4 : Option Addr) (c0_4 : Nat) (l0_4 : List (S73)) (A0_5 : Option Addr) (c0_5 : Nat) (l0_5 : List (S68)) (A0_6 : Option Addr) (c0_6 : Nat) (l0_6 : List (S28)) (a0_7 : ByteArray) (r : Bool) (w : World) (hr0_4 : Kd.C k73 w A0_4 l0_4.length l0_4) (hc0_4 : l0_4.length ≤ c0_4) (hr0_5 : Kd.C k68 w A0_5 l0_5.length l0_5) (hc0_5 : l0_5.length ≤ c0_5) (hr0_6 : Kd.C k28 w A0_6 l0_6.length l0_6) (hc0_6 : l0_6.length ≤ c0_6) (hTab : Tabs w) (h : impl_NodeOk.f k a0_0 a0_1 a0_2 a0_3 l0_4 l0_5 l0_6 a0_7 = some r) :
  Calls Tryz.prog 16 #[.agg #[.int .i64 a0_0, .string a0_1, .string a0_2, .string a0_3, .slice A0_4 l0_4.length c0_4, .slice A0_5 l0_5.length c0_5, .slice A0_6 l0_6.length c0_6, .string a0_7]] w fun e w' => e = .returned (.bool r) ∧ Below w.heap.size w w' := by
 have HT := Aside0.mk hTab
 clear hTab
 have hu28 := Tryz.underlying28
 have HR0_4 := Aside0.mk hr0_4
 have HC0_4 := Aside0.mk hc0_4
 clear hr0_4 hc0_4
 have HR0_5 := Aside0.mk hr0_5
 have HC0_5 := Aside0.mk hc0_5
 clear hr0_5 hc0_5
 have HR0_6 := Aside0.mk hr0_6
 have HC0_6 := Aside0.mk hc0_6
 clear hr0_6 hc0_6
 have HB := Aside0.mk (Below.refl w.heap.size w)
 have H : ((impl_CountOf.f k a0_0 a0_1 a0_2 a0_3 l0_4 l0_5 l0_6 a0_7).bind fun t367 => (if t367 > 60 then (some false) else (if a0_0 = 0 then (if a0_1.toList = ([] : List UInt8) then (if a0_2.toList = ([] : List UInt8) then (if a0_3.toList = ([] : List UInt8) then (if a0_7.toList = ([] : List UInt8) then (if (l0_4.length : Int) = 0 then (if (l0_5.length : Int) = 0 then ((impl_ofKind.f k l0_6 1).bind fun t368 => (if t368 = 1 then ((impl_ofKind.f k l0_6 2).bind fun t369 => (if t369 = 0 then ((impl_kidsOk.f k a0_0 a0_1 a0_2 a0_3 l0_4 l0_5 l0_6 a0_7 0).bind fun t370 => (some t370)) else (some false))) else (some false))) else (some false)) else (some false)) else (some false)) else (some false)) else (some false)) else (some false)) else ((impl_partOk.f k a0_0 a0_1 a0_2 a0_3 l0_4 l0_5 l0_6 a0_7 0).bind fun t371 => (some t371))))) = some r := h
 clear h
 replace H := Option.bind_eq_some_iff.mp H
 obtain ⟨t367, A20, H⟩ := H
 try dsimp only at H
 have A2 := Aside0.mk A20
 clear A20
 go_enter Tryz.func16, Tryz.ntmps16
 go_wp2_with (first | ((with_reducible refine gate_dst (N := 1) rfl ?_); (try (refine gate_guard (by rfl) ?_; dsimp only)); refine box_event ?hg (N := 1) ?hd (cs := #[.int .i64 a0_0, .string a0_1, .string a0_2, .string a0_3, .slice A0_4 l0_4.length c0_4, .slice A0_5 l0_5.length c0_5, .slice A0_6 l0_6.length c0_6, .string a0_7]) (t := 28) ?hr ?_; (case hd => rfl); (case hg => rfl); (case hr => first | (go_simp; done) | (go_simp; rfl)); intro gb366 hg w3 hbox hb; have BK366 := Aside0.mk (hbox); have GW366 := Aside0.mk ((by rw [hg]; exact (below_size hB) : w.heap.size ≤ gb366)); have GE366 := Aside0.mk ((by rw [hg]; exact (below_size hB) : w.heap.size ≤ gb366)); replace HB := Aside0.mk (below_step hB hb); clear hb hbox hg; obtain ⟨hcz4_0, hcz4_1, hcz4_2, hcz4_3, hcz4_4, hcz4_5, hcz4_6, hcz4_7⟩ := bc8 BK366.out) | ((with_reducible refine gate_callee (f := 13) rfl ?_); refine goesL_ (some 5) rfl rfl Tryz.func13 (by kernel_rfl) rfl #[.agg #[.int .i64 a0_0, .string a0_1, .string a0_2, .string a0_3, .slice A0_4 l0_4.length c0_4, .slice A0_5 l0_5.length c0_5, .slice A0_6 l0_6.length c0_6, .string a0_7]] rfl mA ?_; (with_reducible refine (impl_CountOf.calls k a0_0 a0_1 a0_2 a0_3 _ _ l0_4 _ _ l0_5 _ _ l0_6 a0_7 t367 _ ?side1 ?side2 ?side3 ?side4 ?side5 ?side6 A2.out).mono ?_); (case side1 => repeat (first | exact (Kd.C_below HR0_4.out HB.out) | (with_reducible refine Kd.C_alloc ?_ _) | (with_reducible refine Kd.C_drewN ?_ _) | (with_reducible refine Kd.C_drew ?_))); (case side2 => exact HC0_4.out); (case side3 => repeat (first | exact (Kd.C_below HR0_5.out HB.out) | (with_reducible refine Kd.C_alloc ?_ _) | (with_reducible refine Kd.C_drewN ?_ _) | (with_reducible refine Kd.C_drew ?_))); (case side4 => exact HC0_5.out); (case side5 => repeat (first | exact (Kd.C_below HR0_6.out HB.out) | (with_reducible refine Kd.C_alloc ?_ _) | (with_reducible refine Kd.C_drewN ?_ _) | (with_reducible refine Kd.C_drew ?_))); (case side6 => exact HC0_6.out); rintro e w5 ⟨rfl, hb⟩; refine ⟨_, rfl, ?_⟩; replace BK366 := Aside0.mk (blk_below (g := gb366) (by (with_reducible repeat (first | refine bN ?_ _|refine bD ?_|refine bA ?_ _)); exact BK366.out) hb); replace HB := Aside0.mk (below_step hB hb); (try clear hb); (try clear hb2); (try clear hk); (try clear hi); refine halt_ ?_; intro q_ hq_))
 obtain ⟨rfl⟩ := hq_
 by_cases c6 : t367 > 60
 ·rw [if_pos c6] at H
  have c6b0 : decide (60 < t367) = true := decide_eq_true c6
  clear c6
  obtain rfl := Option.some.inj H
  go_wp2
  go_ret
  exact ⟨rE, hB⟩
 ·rw [if_neg c6] at H
  have c6b0 : decide (60 < t367) = false := decide_eq_false c6
  clear c6
  by_cases c7 : a0_0 = 0
  ·rw [if_pos c7] at H
   obtain ⟨c7b0, c7b1⟩ := eqT c7
   clear c7
   by_cases c8 : a0_1.toList = ([] : List UInt8)
   ·rw [if_pos c8] at H
    obtain ⟨c8b0, c8b1⟩ := eqT c8
    clear c8
    by_cases c9 : a0_2.toList = ([] : List UInt8)
    ·rw [if_pos c9] at H
     obtain ⟨c9b0, c9b1⟩ := eqT c9
     clear c9
     by_cases c10 : a0_3.toList = ([] : List UInt8)
     ·rw [if_pos c10] at H
      obtain ⟨c10b0, c10b1⟩ := eqT c10
      clear c10
      by_cases c11 : a0_7.toList = ([] : List UInt8)
      ·rw [if_pos c11] at H
       obtain ⟨c11b0, c11b1⟩ := eqT c11
       clear c11
       by_cases c12 : (l0_4.length : Int) = 0
       ·rw [if_pos c12] at H
        obtain ⟨c12b0, c12b1⟩ := eqT c12
        clear c12
        by_cases c13 : (l0_5.length : Int) = 0
        ·rw [if_pos c13] at H
         obtain ⟨c13b0, c13b1⟩ := eqT c13
         clear c13
         replace H := Option.bind_eq_some_iff.mp H
         obtain ⟨t368, A140, H⟩ := H
         try dsimp only at H
         have A14 := Aside0.mk A140
         clear A140
         obtain ⟨hcz15_0, hcz15_1, hcz15_2, hcz15_3, hcz15_4, hcz15_5, hcz15_6, hcz15_7⟩ := bc8 BK366.out
         go_wp2_with (first | (go_at_call 44; (with_reducible refine (impl_ofKind.calls k _ _ l0_6 1 t368 _ ?side1 ?side2 A14.out).mono ?_); (case side1 => repeat (first | exact (Kd.C_below HR0_6.out HB.out) | (with_reducible refine Kd.C_alloc ?_ _) | (with_reducible refine Kd.C_drewN ?_ _) | (with_reducible refine Kd.C_drew ?_))); (case side2 => exact HC0_6.out); rintro e w16 ⟨rfl, hb⟩; replace BK366 := Aside0.mk (blk_below (g := gb366) (by (with_reducible repeat (first | refine bN ?_ _|refine bD ?_|refine bA ?_ _)); exact BK366.out) hb); replace HB := Aside0.mk (below_step hB hb); (try clear hb); (try clear hb2); (try clear hk); (try clear hi); refine halt_ ?_; intro q_ hq_))
         obtain ⟨rfl⟩ := hq_
         by_cases c17 : t368 = 1
         ·rw [if_pos c17] at H
          obtain ⟨c17b0, c17b1⟩ := eqT c17
          clear c17
          replace H := Option.bind_eq_some_iff.mp H
          obtain ⟨t369, A180, H⟩ := H
          try dsimp only at H
          have A18 := Aside0.mk A180
          clear A180
          obtain ⟨hcz19_0, hcz19_1, hcz19_2, hcz19_3, hcz19_4, hcz19_5, hcz19_6, hcz19_7⟩ := bc8 BK366.out
          go_wp2_with (first | (go_at_call 44; (with_reducible refine (impl_ofKind.calls k _ _ l0_6 2 t369 _ ?side1 ?side2 A18.out).mono ?_); (case side1 => repeat (first | exact (Kd.C_below HR0_6.out HB.out) | (with_reducible refine Kd.C_alloc ?_ _) | (with_reducible refine Kd.C_drewN ?_ _) | (with_reducible refine Kd.C_drew ?_))); (case side2 => exact HC0_6.out); rintro e w20 ⟨rfl, hb⟩; replace BK366 := Aside0.mk (blk_below (g := gb366) (by (with_reducible repeat (first | refine bN ?_ _|refine bD ?_|refine bA ?_ _)); exact BK366.out) hb); replace HB := Aside0.mk (below_step hB hb); (try clear hb); (try clear hb2); (try clear hk); (try clear hi); refine halt_ ?_; intro q_ hq_))
          obtain ⟨rfl⟩ := hq_
          by_cases c21 : t369 = 0
          ·rw [if_pos c21] at H
           obtain ⟨c21b0, c21b1⟩ := eqT c21
           clear c21
           replace H := Option.bind_eq_some_iff.mp H
           obtain ⟨t370, A220, H⟩ := H
           try dsimp only at H
           have A22 := Aside0.mk A220
           clear A220
           obtain rfl := Option.some.inj H
           obtain ⟨hcz23_0, hcz23_1, hcz23_2, hcz23_3, hcz23_4, hcz23_5, hcz23_6, hcz23_7⟩ := bc8 BK366.out
           go_wp2_with (first | (go_at_call 45; (with_reducible refine (impl_kidsOk.calls k a0_0 a0_1 a0_2 a0_3 _ _ l0_4 _ _ l0_5 _ _ l0_6 a0_7 0 t370 _ ?side1 ?side2 ?side3 ?side4 ?side5 ?side6 ?tabs A22.out).mono ?_); (case tabs => first | exact Tabs.below HT.out hB | (repeat (first | exact HT.out | (with_reducible refine Tabs.drewN ?_ _) | (with_reducible refine Tabs.drew ?_) | (with_reducible refine Tabs.alloc ?_ _)))); (case side1 => repeat (first | exact (Kd.C_below HR0_4.out HB.out) | (with_reducible refine Kd.C_alloc ?_ _) | (with_reducible refine Kd.C_drewN ?_ _) | (with_reducible refine Kd.C_drew ?_))); (case side2 => exact HC0_4.out); (case side3 => repeat (first | exact (Kd.C_below HR0_5.out HB.out) | (with_reducible refine Kd.C_alloc ?_ _) | (with_reducible refine Kd.C_drewN ?_ _) | (with_reducible refine Kd.C_drew ?_))); (case side4 => exact HC0_5.out); (case side5 => repeat (first | exact (Kd.C_below HR0_6.out HB.out) | (with_reducible refine Kd.C_alloc ?_ _) | (with_reducible refine Kd.C_drewN ?_ _) | (with_reducible refine Kd.C_drew ?_))); (case side6 => exact HC0_6.out); rintro e w24 ⟨rfl, hb⟩; replace BK366 := Aside0.mk (blk_below (g := gb366) (by (with_reducible repeat (first | refine bN ?_ _|refine bD ?_|refine bA ?_ _)); exact BK366.out) hb); replace HB := Aside0.mk (below_step hB hb); (try clear hb); (try clear hb2); (try clear hk); (try clear hi)))
           go_ret
           exact ⟨rE, hB⟩
          ·rw [if_neg c21] at H
           obtain ⟨c21b0, c21b1⟩ := eqF c21
           obtain rfl := Option.some.inj H
           go_wp2
           go_ret
           exact ⟨rE, hB⟩
         ·rw [if_neg c17] at H
          obtain ⟨c17b0, c17b1⟩ := eqF c17
          obtain rfl := Option.some.inj H
          go_wp2
          go_ret
          exact ⟨rE, hB⟩
        ·rw [if_neg c13] at H
         obtain ⟨c13b0, c13b1⟩ := eqF c13
         have c13b2 : ¬ (l0_5 = []) := fun h_ => c13 (by rw [h_]; rfl)
         obtain rfl := Option.some.inj H
         obtain ⟨hcz25_0, hcz25_1, hcz25_2, hcz25_3, hcz25_4, hcz25_5, hcz25_6, hcz25_7⟩ := bc8 BK366.out
         go_wp2
         go_ret
         exact ⟨rE, hB⟩
       ·rw [if_neg c12] at H
        obtain ⟨c12b0, c12b1⟩ := eqF c12
        have c12b2 : ¬ (l0_4 = []) := fun h_ => c12 (by rw [h_]; rfl)
        obtain rfl := Option.some.inj H
        obtain ⟨hcz26_0, hcz26_1, hcz26_2, hcz26_3, hcz26_4, hcz26_5, hcz26_6, hcz26_7⟩ := bc8 BK366.out
        go_wp2
        go_ret
        exact ⟨rE, hB⟩
      ·rw [if_neg c11] at H
       obtain ⟨c11b0, c11b1⟩ := eqF c11
       obtain rfl := Option.some.inj H
       obtain ⟨hcz27_0, hcz27_1, hcz27_2, hcz27_3, hcz27_4, hcz27_5, hcz27_6, hcz27_7⟩ := bc8 BK366.out
       go_wp2
       go_ret
       exact ⟨rE, hB⟩
     ·rw [if_neg c10] at H
      obtain ⟨c10b0, c10b1⟩ := eqF c10
      obtain rfl := Option.some.inj H
      obtain ⟨hcz28_0, hcz28_1, hcz28_2, hcz28_3, hcz28_4, hcz28_5, hcz28_6, hcz28_7⟩ := bc8 BK366.out
      go_wp2
      go_ret
      exact ⟨rE, hB⟩
    ·rw [if_neg c9] at H
     obtain ⟨c9b0, c9b1⟩ := eqF c9
     obtain rfl := Option.some.inj H
     obtain ⟨hcz29_0, hcz29_1, hcz29_2, hcz29_3, hcz29_4, hcz29_5, hcz29_6, hcz29_7⟩ := bc8 BK366.out
     go_wp2
     go_ret
     exact ⟨rE, hB⟩
   ·rw [if_neg c8] at H
    obtain ⟨c8b0, c8b1⟩ := eqF c8
    obtain rfl := Option.some.inj H
    obtain ⟨hcz30_0, hcz30_1, hcz30_2, hcz30_3, hcz30_4, hcz30_5, hcz30_6, hcz30_7⟩ := bc8 BK366.out
    go_wp2
    go_ret
    exact ⟨rE, hB⟩
  ·rw [if_neg c7] at H
   obtain ⟨c7b0, c7b1⟩ := eqF c7
   replace H := Option.bind_eq_some_iff.mp H
   obtain ⟨t371, A310, H⟩ := H
   try dsimp only at H
   have A31 := Aside0.mk A310
   clear A310
   obtain rfl := Option.some.inj H
   obtain ⟨hcz32_0, hcz32_1, hcz32_2, hcz32_3, hcz32_4, hcz32_5, hcz32_6, hcz32_7⟩ := bc8 BK366.out
   go_wp2_with (first | ((with_reducible refine gate_callee (f := 43) rfl ?_); refine goesL_ (some 11) rfl rfl Tryz.func43 (by kernel_rfl) rfl #[.agg #[.int .i64 a0_0, .string a0_1, .string a0_2, .string a0_3, .slice A0_4 l0_4.length c0_4, .slice A0_5 l0_5.length c0_5, .slice A0_6 l0_6.length c0_6, .string a0_7], .int .i64 0] rfl mA ?_; (with_reducible refine (impl_partOk.calls k a0_0 a0_1 a0_2 a0_3 _ _ l0_4 _ _ l0_5 _ _ l0_6 a0_7 0 t371 _ ?side1 ?side2 ?side3 ?side4 ?side5 ?side6 ?tabs A31.out).mono ?_); (case tabs => first | exact Tabs.below HT.out hB | (repeat (first | exact HT.out | (with_reducible refine Tabs.drewN ?_ _) | (with_reducible refine Tabs.drew ?_) | (with_reducible refine Tabs.alloc ?_ _)))); (case side1 => repeat (first | exact (Kd.C_below HR0_4.out HB.out) | (with_reducible refine Kd.C_alloc ?_ _) | (with_reducible refine Kd.C_drewN ?_ _) | (with_reducible refine Kd.C_drew ?_))); (case side2 => exact HC0_4.out); (case side3 => repeat (first | exact (Kd.C_below HR0_5.out HB.out) | (with_reducible refine Kd.C_alloc ?_ _) | (with_reducible refine Kd.C_drewN ?_ _) | (with_reducible refine Kd.C_drew ?_))); (case side4 => exact HC0_5.out); (case side5 => repeat (first | exact (Kd.C_below HR0_6.out HB.out) | (with_reducible refine Kd.C_alloc ?_ _) | (with_reducible refine Kd.C_drewN ?_ _) | (with_reducible refine Kd.C_drew ?_))); (case side6 => exact HC0_6.out); rintro e w33 ⟨rfl, hb⟩; refine ⟨_, rfl, ?_⟩; replace BK366 := Aside0.mk (blk_below (g := gb366) (by (with_reducible repeat (first | refine bN ?_ _|refine bD ?_|refine bA ?_ _)); exact BK366.out) hb); replace HB := Aside0.mk (below_step hB hb); (try clear hb); (try clear hb2); (try clear hk); (try clear hi)))
   go_ret
   exact ⟨rE, hB⟩

/-! ### strings_ReplaceAll: function 154 -/
def strings_ReplaceAll.f (a0 a1 a2 : ByteArray) : Option ByteArray := if a0.size < 4294967281 ∧ 1 ≤ a1.size ∧ a0.size + Lib.countB a0 a1 * a2.size ≤ 140737488355328 then some ⟨(Lib.replaceAll a0.data.toList a1.data.toList a2.data.toList).toArray⟩ else none
theorem strings_ReplaceAll.calls (a0 a1 a2 : ByteArray) (r : ByteArray) (w : World) (hTab : Tabs w) (h : strings_ReplaceAll.f a0 a1 a2 = some r) :
    Calls Tryz.prog 154 #[.string a0, .string a1, .string a2] w fun e w' => e = .returned (.string r) ∧ Below w.heap.size w w' := by
  unfold strings_ReplaceAll.f at h
  split at h
  · rename_i hc
    obtain rfl := Option.some.inj h
    obtain ⟨m, hm⟩ := hTab.maxlen
    exact Tryz.strings_ReplaceAll a0 a1 a2 m w hc.1 hm hc.2.1 hc.2.2
  · cases h

/-! ### impl_EscText: function 132 -/
def impl_EscText.f (a0 : ByteArray) : Option (ByteArray) := (strings_ReplaceAll.f a0 (⟨#[38]⟩ : ByteArray) (⟨#[38, 97, 109, 112, 59]⟩ : ByteArray)).bind fun t372 => ((strings_ReplaceAll.f t372 (⟨#[60]⟩ : ByteArray) (⟨#[38, 108, 116, 59]⟩ : ByteArray)).bind fun t373 => ((strings_ReplaceAll.f t373 (⟨#[62]⟩ : ByteArray) (⟨#[38, 103, 116, 59]⟩ : ByteArray)).bind fun t374 => ((strings_ReplaceAll.f t374 (⟨#[13]⟩ : ByteArray) (⟨#[38, 35, 49, 51, 59]⟩ : ByteArray)).bind fun t375 => (some t375))))
theorem impl_EscText.calls (a0 : ByteArray) (r : ByteArray) (w : World) (hTab : Tabs w) (h : impl_EscText.f a0 = some r) :
  Calls Tryz.prog 132 #[.string a0] w fun e w' => e = .returned (.string r) ∧ Below w.heap.size w w' := by
 have HT := Aside0.mk hTab
 clear hTab
 have HB := Aside0.mk (Below.refl w.heap.size w)
 have H : ((strings_ReplaceAll.f a0 (⟨#[38]⟩ : ByteArray) (⟨#[38, 97, 109, 112, 59]⟩ : ByteArray)).bind fun t372 => ((strings_ReplaceAll.f t372 (⟨#[60]⟩ : ByteArray) (⟨#[38, 108, 116, 59]⟩ : ByteArray)).bind fun t373 => ((strings_ReplaceAll.f t373 (⟨#[62]⟩ : ByteArray) (⟨#[38, 103, 116, 59]⟩ : ByteArray)).bind fun t374 => ((strings_ReplaceAll.f t374 (⟨#[13]⟩ : ByteArray) (⟨#[38, 35, 49, 51, 59]⟩ : ByteArray)).bind fun t375 => (some t375))))) = some r := h
 clear h
 replace H := Option.bind_eq_some_iff.mp H
 obtain ⟨t372, A20, H⟩ := H
 try dsimp only at H
 have A2 := Aside0.mk A20
 clear A20
 replace H := Option.bind_eq_some_iff.mp H
 obtain ⟨t373, A30, H⟩ := H
 try dsimp only at H
 have A3 := Aside0.mk A30
 clear A30
 replace H := Option.bind_eq_some_iff.mp H
 obtain ⟨t374, A40, H⟩ := H
 try dsimp only at H
 have A4 := Aside0.mk A40
 clear A40
 replace H := Option.bind_eq_some_iff.mp H
 obtain ⟨t375, A50, H⟩ := H
 try dsimp only at H
 have A5 := Aside0.mk A50
 clear A50
 obtain rfl := Option.some.inj H
 go_enter Tryz.func132, Tryz.ntmps132
 go_wp2_with (first | ((with_reducible refine gate_callee (f := 154) rfl ?_); refine goesL_ (some 4) rfl rfl Tryz.func154 (by kernel_rfl) rfl #[.string a0, .string (⟨#[38]⟩ : ByteArray), .string (⟨#[38, 97, 109, 112, 59]⟩ : ByteArray)] rfl mA ?_; (with_reducible refine (strings_ReplaceAll.calls a0 (⟨#[38]⟩ : ByteArray) (⟨#[38, 97, 109, 112, 59]⟩ : ByteArray) t372 _ ?tabs A2.out).mono ?_); (case tabs => first | exact Tabs.below HT.out hB | (repeat (first | exact HT.out | (with_reducible refine Tabs.drewN ?_ _) | (with_reducible refine Tabs.drew ?_) | (with_reducible refine Tabs.alloc ?_ _)))); rintro e w6 ⟨rfl, hb⟩; refine ⟨_, rfl, ?_⟩; replace HB := Aside0.mk (below_step hB hb); (try clear hb); (try clear hb2); (try clear hk); (try clear hi)) | ((with_reducible refine gate_callee (f := 154) rfl ?_); refine goesL_ (some 6) rfl rfl Tryz.func154 (by kernel_rfl) rfl #[.string t372, .string (⟨#[60]⟩ : ByteArray), .string (⟨#[38, 108, 116, 59]⟩ : ByteArray)] rfl mA ?_; (with_reducible refine (strings_ReplaceAll.calls t372 (⟨#[60]⟩ : ByteArray) (⟨#[38, 108, 116, 59]⟩ : ByteArray) t373 _ ?tabs A3.out).mono ?_); (case tabs => first | exact Tabs.below HT.out hB | (repeat (first | exact HT.out | (with_reducible refine Tabs.drewN ?_ _) | (with_reducible refine Tabs.drew ?_) | (with_reducible refine Tabs.alloc ?_ _)))); rintro e w7 ⟨rfl, hb⟩; refine ⟨_, rfl, ?_⟩; replace HB := Aside0.mk (below_step hB hb); (try clear hb); (try clear hb2); (try clear hk); (try clear hi)) | ((with_reducible refine gate_callee (f := 154) rfl ?_); refine goesL_ (some 8) rfl rfl Tryz.func154 (by kernel_rfl) rfl #[.string t373, .string (⟨#[62]⟩ : ByteArray), .string (⟨#[38, 103, 116, 59]⟩ : ByteArray)] rfl mA ?_; (with_reducible refine (strings_ReplaceAll.calls t373 (⟨#[62]⟩ : ByteArray) (⟨#[38, 103, 116, 59]⟩ : ByteArray) t374 _ ?tabs A4.out).mono ?_); (case tabs => first | exact Tabs.below HT.out hB | (repeat (first | exact HT.out | (with_reducible refine Tabs.drewN ?_ _) | (with_reducible refine Tabs.drew ?_) | (with_reducible refine Tabs.alloc ?_ _)))); rintro e w8 ⟨rfl, hb⟩; refine ⟨_, rfl, ?_⟩; replace HB := Aside0.mk (below_step hB hb); (try clear hb); (try clear hb2); (try clear hk); (try clear hi)) | ((with_reducible refine gate_callee (f := 154) rfl ?_); refine goesL_ (some 10) rfl rfl Tryz.func154 (by kernel_rfl) rfl #[.string t374, .string (⟨#[13]⟩ : ByteArray), .string (⟨#[38, 35, 49, 51, 59]⟩ : ByteArray)] rfl mA ?_; (with_reducible refine (strings_ReplaceAll.calls t374 (⟨#[13]⟩ : ByteArray) (⟨#[38, 35, 49, 51, 59]⟩ : ByteArray) t375 _ ?tabs A5.out).mono ?_); (case tabs => first | exact Tabs.below HT.out hB | (repeat (first | exact HT.out | (with_reducible refine Tabs.drewN ?_ _) | (with_reducible refine Tabs.drew ?_) | (with_reducible refine Tabs.alloc ?_ _)))); rintro e w9 ⟨rfl, hb⟩; refine ⟨_, rfl, ?_⟩; replace HB := Aside0.mk (below_step hB hb); (try clear hb); (try clear hb2); (try clear hk); (try clear hi)))
 go_ret
 exact ⟨rE, hB⟩

/-! ### strings_Cut: function 167 -/
def strings_Cut.f (a0 a1 : ByteArray) : Option (ByteArray × ByteArray × Bool) := if a0.size < 4294967281 then some (⟨(Lib.cut a0.data.toList a1.data.toList).1.toArray⟩, ⟨(Lib.cut a0.data.toList a1.data.toList).2.1.toArray⟩, (Lib.cut a0.data.toList a1.data.toList).2.2) else none
theorem strings_Cut.calls (a0 a1 : ByteArray) (r1 : ByteArray) (r2 : ByteArray) (r3 : Bool) (w : World) (hTab : Tabs w) (h : strings_Cut.f a0 a1 = some (r1, r2, r3)) :
    Calls Tryz.prog 167 #[.string a0, .string a1] w fun e w' => e = .returned (.tuple #[.string r1, .string r2, .bool r3]) ∧ Below w.heap.size w w' := by
  unfold strings_Cut.f at h
  split at h
  · rename_i hc
    simp only [Option.some.injEq, Prod.mk.injEq] at h
    obtain ⟨rfl, rfl, rfl⟩ := h
    obtain ⟨m, hm⟩ := hTab.maxlen
    exact (Tryz.strings_Cut a0 a1 m w hc hm).mono fun e w' ⟨he, n, hw⟩ => ⟨he, by subst hw; exact pw_below_drewN (Below.refl _ _) n⟩
  · cases h

/-! ### impl_SplitName: function 155 -/
def impl_SplitName.f (k : Nat) (a0 : ByteArray) : Option (ByteArray × ByteArray × Bool) := (impl_PlainOk.f k a0).bind fun t376 => (if t376 = true then (some ((⟨#[]⟩ : ByteArray), a0, true)) else ((strings_Cut.f a0 (⟨#[58]⟩ : ByteArray)).bind fun bt377 => (if bt377.2.2 = true then ((impl_PlainOk.f k bt377.1).bind fun t380 => (if t380 = true then ((impl_PlainOk.f k bt377.2.1).bind fun t381 => (if t381 = true then (some (bt377.1, bt377.2.1, true)) else (some ((⟨#[]⟩ : ByteArray), (⟨#[]⟩ : ByteArray), false)))) else (some ((⟨#[]⟩ : ByteArray), (⟨#[]⟩ : ByteArray), false)))) else (some ((⟨#[]⟩ : ByteArray), (⟨#[]⟩ : ByteArray), false)))))
theorem impl_SplitName.calls (k : Nat) (a0 : ByteArray) (r1 : ByteArray) (r2 : ByteArray) (r3 : Bool) (w : World) (hTab : Tabs w) (h : impl_SplitName.f k a0 = some (r1, r2, r3)) :
  Calls Tryz.prog 155 #[.string a0] w fun e w' => e = .returned (.tuple #[.string r1, .string r2, .bool r3]) ∧ Below w.heap.size w w' := by
 have HT := Aside0.mk hTab
 clear hTab
 have HB := Aside0.mk (Below.refl w.heap.size w)
 have H : ((impl_PlainOk.f k a0).bind fun t376 => (if t376 = true then (some ((⟨#[]⟩ : ByteArray), a0, true)) else ((strings_Cut.f a0 (⟨#[58]⟩ : ByteArray)).bind fun bt377 => (if bt377.2.2 = true then ((impl_PlainOk.f k bt377.1).bind fun t380 => (if t380 = true then ((impl_PlainOk.f k bt377.2.1).bind fun t381 => (if t381 = true then (some (bt377.1, bt377.2.1, true)) else (some ((⟨#[]⟩ : ByteArray), (⟨#[]⟩ : ByteArray), false)))) else (some ((⟨#[]⟩ : ByteArray), (⟨#[]⟩ : ByteArray), false)))) else (some ((⟨#[]⟩ : ByteArray), (⟨#[]⟩ : ByteArray), false)))))) = some (r1, r2, r3) := h
 clear h
 replace H := Option.bind_eq_some_iff.mp H
 obtain ⟨t376, A20, H⟩ := H
 try dsimp only at H
 have A2 := Aside0.mk A20
 clear A20
 go_enter Tryz.func155, Tryz.ntmps155
 go_wp2_with (first | ((with_reducible refine gate_callee (f := 81) rfl ?_); refine goesL_ (some 9) rfl rfl Tryz.func81 (by kernel_rfl) rfl #[.string a0] rfl mA ?_; (with_reducible refine (impl_PlainOk.calls k a0 t376 _ ?tabs A2.out).mono ?_); (case tabs => first | exact Tabs.below HT.out hB | (repeat (first | exact HT.out | (with_reducible refine Tabs.drewN ?_ _) | (with_reducible refine Tabs.drew ?_) | (with_reducible refine Tabs.alloc ?_ _)))); rintro e w3 ⟨rfl, hb⟩; refine ⟨_, rfl, ?_⟩; replace HB := Aside0.mk (below_step hB hb); (try clear hb); (try clear hb2); (try clear hk); (try clear hi); refine halt_ ?_; intro q_ hq_))
 obtain ⟨rfl⟩ := hq_
 by_cases c4 : t376 = true
 ·subst c4
  rw [if_pos rfl] at H
  simp only [Option.some.injEq, Prod.mk.injEq] at H
  obtain ⟨rfl, rfl, rfl⟩ := H
  go_wp2
  go_ret3
  exact ⟨rE, hB⟩
 ·replace c4 := Bool.eq_false_iff.mpr c4
  subst c4
  rw [if_neg (show ¬ (false = true) by decide)] at H
  replace H := Option.bind_eq_some_iff.mp H
  obtain ⟨⟨t377, t378, t379⟩, A50, H⟩ := H
  try dsimp only at H
  have A5 := Aside0.mk A50
  clear A50
  go_wp2_with (first | ((with_reducible refine gate_callee (f := 167) rfl ?_); refine goesL_ (some 13) rfl rfl Tryz.func167 (by kernel_rfl) rfl #[.string a0, .string (⟨#[58]⟩ : ByteArray)] rfl mA ?_; (with_reducible refine (strings_Cut.calls a0 (⟨#[58]⟩ : ByteArray) t377 t378 t379 _ ?tabs A5.out).mono ?_); (case tabs => first | exact Tabs.below HT.out hB | (repeat (first | exact HT.out | (with_reducible refine Tabs.drewN ?_ _) | (with_reducible refine Tabs.drew ?_) | (with_reducible refine Tabs.alloc ?_ _)))); rintro e w6 ⟨rfl, hb⟩; refine ⟨_, rfl, ?_⟩; replace HB := Aside0.mk (below_step hB hb); (try clear hb); (try clear hb2); (try clear hk); (try clear hi); refine halt_ ?_; intro q_ hq_))
  obtain ⟨rfl⟩ := hq_
  by_cases c7 : t379 = true
  ·subst c7
   rw [if_pos rfl] at H
   replace H := Option.bind_eq_some_iff.mp H
   obtain ⟨t380, A80, H⟩ := H
   try dsimp only at H
   have A8 := Aside0.mk A80
   clear A80
   go_wp2_with (first | (go_at_call 81; (with_reducible refine (impl_PlainOk.calls k t377 t380 _ ?tabs A8.out).mono ?_); (case tabs => first | exact Tabs.below HT.out hB | (repeat (first | exact HT.out | (with_reducible refine Tabs.drewN ?_ _) | (with_reducible refine Tabs.drew ?_) | (with_reducible refine Tabs.alloc ?_ _)))); rintro e w9 ⟨rfl, hb⟩; replace HB := Aside0.mk (below_step hB hb); (try clear hb); (try clear hb2); (try clear hk); (try clear hi); refine halt_ ?_; intro q_ hq_))
   obtain ⟨rfl⟩ := hq_
   by_cases c10 : t380 = true
   ·subst c10
    rw [if_pos rfl] at H
    replace H := Option.bind_eq_some_iff.mp H
    obtain ⟨t381, A110, H⟩ := H
    try dsimp only at H
    have A11 := Aside0.mk A110
    clear A110
    go_wp2_with (first | (go_at_call 81; (with_reducible refine (impl_PlainOk.calls k t378 t381 _ ?tabs A11.out).mono ?_); (case tabs => first | exact Tabs.below HT.out hB | (repeat (first | exact HT.out | (with_reducible refine Tabs.drewN ?_ _) | (with_reducible refine Tabs.drew ?_) | (with_reducible refine Tabs.alloc ?_ _)))); rintro e w12 ⟨rfl, hb⟩; replace HB := Aside0.mk (below_step hB hb); (try clear hb); (try clear hb2); (try clear hk); (try clear hi); refine halt_ ?_; intro q_ hq_))
    obtain ⟨rfl⟩ := hq_
    by_cases c13 : t381 = true
    ·subst c13
     rw [if_pos rfl] at H
     simp only [Option.some.injEq, Prod.mk.injEq] at H
     obtain ⟨rfl, rfl, rfl⟩ := H
     go_wp2
     go_ret3
     exact ⟨rE, hB⟩
    ·replace c13 := Bool.eq_false_iff.mpr c13
     subst c13
     rw [if_neg (show ¬ (false = true) by decide)] at H
     simp only [Option.some.injEq, Prod.mk.injEq] at H
     obtain ⟨rfl, rfl, rfl⟩ := H
     go_wp2
     go_ret3
     exact ⟨rE, hB⟩
   ·replace c10 := Bool.eq_false_iff.mpr c10
    subst c10
    rw [if_neg (show ¬ (false = true) by decide)] at H
    simp only [Option.some.injEq, Prod.mk.injEq] at H
    obtain ⟨rfl, rfl, rfl⟩ := H
    go_wp2
    go_ret3
    exact ⟨rE, hB⟩
  ·replace c7 := Bool.eq_false_iff.mpr c7
   subst c7
   rw [if_neg (show ¬ (false = true) by decide)] at H
   simp only [Option.some.injEq, Prod.mk.injEq] at H
   obtain ⟨rfl, rfl, rfl⟩ := H
   go_wp2
   go_ret3
   exact ⟨rE, hB⟩

/-! ### impl_JoinName: function 133 -/
def impl_JoinName.f (k : Nat) (a0 : ByteArray) (a1 : ByteArray) : Option (ByteArray) := if a0.toList = ([] : List UInt8) then ((impl_SplitName.f k a1).bind fun bt382 => (if bt382.2.2 = true then (if bt382.1.toList = a0.toList then (if bt382.2.1.toList = a1.toList then (some a1) else (some (⟨#[]⟩ : ByteArray))) else (some (⟨#[]⟩ : ByteArray))) else (some (⟨#[]⟩ : ByteArray)))) else (if a0.size + 1 ≤ 9223372036854775807 then (if (a0 ++ (⟨#[58]⟩ : ByteArray)).size + a1.size ≤ 9223372036854775807 then ((impl_SplitName.f k ((a0 ++ (⟨#[58]⟩ : ByteArray)) ++ a1)).bind fun bt385 => (if bt385.2.2 = true then (if bt385.1.toList = a0.toList then (if bt385.2.1.toList = a1.toList then (some ((a0 ++ (⟨#[58]⟩ : ByteArray)) ++ a1)) else (some (⟨#[]⟩ : ByteArray))) else (some (⟨#[]⟩ : ByteArray))) else (some (⟨#[]⟩ : ByteArray)))) else (none)) else (none))
theorem impl_JoinName.calls (k : Nat) (a0 : ByteArray) (a1 : ByteArray) (r : ByteArray) (w : World) (hTab : Tabs w) (h : impl_JoinName.f k a0 a1 = some r) :
  Calls Tryz.prog 133 #[.string a0, .string a1] w fun e w' => e = .returned (.string r) ∧ Below w.heap.size w w' := by
 have HT := Aside0.mk hTab
 clear hTab
 have HB := Aside0.mk (Below.refl w.heap.size w)
 have H : (if a0.toList = ([] : List UInt8) then ((impl_SplitName.f k a1).bind fun bt382 => (if bt382.2.2 = true then (if bt382.1.toList = a0.toList then (if bt382.2.1.toList = a1.toList then (some a1) else (some (⟨#[]⟩ : ByteArray))) else (some (⟨#[]⟩ : ByteArray))) else (some (⟨#[]⟩ : ByteArray)))) else (if a0.size + 1 ≤ 9223372036854775807 then (if (a0 ++ (⟨#[58]⟩ : ByteArray)).size + a1.size ≤ 9223372036854775807 then ((impl_SplitName.f k ((a0 ++ (⟨#[58]⟩ : ByteArray)) ++ a1)).bind fun bt385 => (if bt385.2.2 = true then (if bt385.1.toList = a0.toList then (if bt385.2.1.toList = a1.toList then (some ((a0 ++ (⟨#[58]⟩ : ByteArray)) ++ a1)) else (some (⟨#[]⟩ : ByteArray))) else (some (⟨#[]⟩ : ByteArray))) else (some (⟨#[]⟩ : ByteArray)))) else (none)) else (none))) = some r := h
 clear h
 by_cases c3 : a0.toList = ([] : List UInt8)
 ·rw [if_pos c3] at H
  obtain ⟨c3b0, c3b1⟩ := eqT c3
  clear c3
  replace H := Option.bind_eq_some_iff.mp H
  obtain ⟨⟨t382, t383, t384⟩, A40, H⟩ := H
  try dsimp only at H
  have A4 := Aside0.mk A40
  clear A40
  go_enter Tryz.func133, Tryz.ntmps133
  go_wp2_with (first | ((with_reducible refine gate_callee (f := 155) rfl ?_); refine goesL_ (some 18) rfl rfl Tryz.func155 (by kernel_rfl) rfl #[.string a1] rfl mA ?_; (with_reducible refine (impl_SplitName.calls k a1 t382 t383 t384 _ ?tabs A4.out).mono ?_); (case tabs => first | exact Tabs.below HT.out hB | (repeat (first | exact HT.out | (with_reducible refine Tabs.drewN ?_ _) | (with_reducible refine Tabs.drew ?_) | (with_reducible refine Tabs.alloc ?_ _)))); rintro e w5 ⟨rfl, hb⟩; refine ⟨_, rfl, ?_⟩; replace HB := Aside0.mk (below_step hB hb); (try clear hb); (try clear hb2); (try clear hk); (try clear hi); refine halt_ ?_; intro q_ hq_))
  obtain ⟨rfl⟩ := hq_
  by_cases c6 : t384 = true
  ·subst c6
   rw [if_pos rfl] at H
   by_cases c7 : t382.toList = a0.toList
   ·rw [if_pos c7] at H
    obtain ⟨c7b0, c7b1⟩ := eqT c7
    clear c7
    by_cases c8 : t383.toList = a1.toList
    ·rw [if_pos c8] at H
     obtain ⟨c8b0, c8b1⟩ := eqT c8
     clear c8
     obtain rfl := Option.some.inj H
     go_wp2
     go_ret
     exact ⟨rE, hB⟩
    ·rw [if_neg c8] at H
     obtain ⟨c8b0, c8b1⟩ := eqF c8
     obtain rfl := Option.some.inj H
     go_wp2
     go_ret
     exact ⟨rE, hB⟩
   ·rw [if_neg c7] at H
    obtain ⟨c7b0, c7b1⟩ := eqF c7
    obtain rfl := Option.some.inj H
    go_wp2
    go_ret
    exact ⟨rE, hB⟩
  ·replace c6 := Bool.eq_false_iff.mpr c6
   subst c6
   rw [if_neg (show ¬ (false = true) by decide)] at H
   obtain rfl := Option.some.inj H
   go_wp2
   go_ret
   exact ⟨rE, hB⟩
 ·rw [if_neg c3] at H
  obtain ⟨c3b0, c3b1⟩ := eqF c3
  obtain ⟨c9, H⟩ := if_som H
  obtain ⟨c9b0, c9b1⟩ := fcT c9
  try have c9b2 : (9223372036854775807 < a0.size + 1) = False := eq_false (Nat.not_lt.2 c9)
  obtain ⟨c10, H⟩ := if_som H
  obtain ⟨c10b0, c10b1⟩ := fcT c10
  try have c10b2 : (9223372036854775807 < a0.size + 1 + a1.size) = False := eq_false (by have h_ := c10; simp only [ByteArray.size_append] at h_; exact Nat.not_lt.2 h_)
  replace H := Option.bind_eq_some_iff.mp H
  obtain ⟨⟨t385, t386, t387⟩, A110, H⟩ := H
  try dsimp only at H
  have A11 := Aside0.mk A110
  clear A110
  go_enter Tryz.func133, Tryz.ntmps133
  go_wp2_with (first | ((with_reducible refine gate_callee (f := 155) rfl ?_); refine goesL_ (some 18) rfl rfl Tryz.func155 (by kernel_rfl) rfl #[.string ((a0 ++ (⟨#[58]⟩ : ByteArray)) ++ a1)] rfl mA ?_; (with_reducible refine (impl_SplitName.calls k ((a0 ++ (⟨#[58]⟩ : ByteArray)) ++ a1) t385 t386 t387 _ ?tabs A11.out).mono ?_); (case tabs => first | exact Tabs.below HT.out hB | (repeat (first | exact HT.out | (with_reducible refine Tabs.drewN ?_ _) | (with_reducible refine Tabs.drew ?_) | (with_reducible refine Tabs.alloc ?_ _)))); rintro e w12 ⟨rfl, hb⟩; refine ⟨_, rfl, ?_⟩; replace HB := Aside0.mk (below_step hB hb); (try clear hb); (try clear hb2); (try clear hk); (try clear hi); refine halt_ ?_; intro q_ hq_))
  obtain ⟨rfl⟩ := hq_
  by_cases c13 : t387 = true
  ·subst c13
   rw [if_pos rfl] at H
   by_cases c14 : t385.toList = a0.toList
   ·rw [if_pos c14] at H
    obtain ⟨c14b0, c14b1⟩ := eqT c14
    clear c14
    by_cases c15 : t386.toList = a1.toList
    ·rw [if_pos c15] at H
     obtain ⟨c15b0, c15b1⟩ := eqT c15
     clear c15
     obtain rfl := Option.some.inj H
     go_wp2
     go_ret
     exact ⟨rE, hB⟩
    ·rw [if_neg c15] at H
     obtain ⟨c15b0, c15b1⟩ := eqF c15
     obtain rfl := Option.some.inj H
     go_wp2
     go_ret
     exact ⟨rE, hB⟩
   ·rw [if_neg c14] at H
    obtain ⟨c14b0, c14b1⟩ := eqF c14
    obtain rfl := Option.some.inj H
    go_wp2
    go_ret
    exact ⟨rE, hB⟩
  ·replace c13 := Bool.eq_false_iff.mpr c13
   subst c13
   rw [if_neg (show ¬ (false = true) by decide)] at H
   obtain rfl := Option.some.inj H
   go_wp2
   go_ret
   exact ⟨rE, hB⟩
/-! ### impl_EscAttr: function 135 -/
def impl_EscAttr.f (a0 : ByteArray) : Option (ByteArray) := (impl_EscText.f a0).bind fun t388 => ((strings_ReplaceAll.f t388 (⟨#[34]⟩ : ByteArray) (⟨#[38, 113, 117, 111, 116, 59]⟩ : ByteArray)).bind fun t389 => ((strings_ReplaceAll.f t389 (⟨#[9]⟩ : ByteArray) (⟨#[38, 35, 57, 59]⟩ : ByteArray)).bind fun t390 => ((strings_ReplaceAll.f t390 (⟨#[10]⟩ : ByteArray) (⟨#[38, 35, 49, 48, 59]⟩ : ByteArray)).bind fun t391 => (some t391))))
theorem impl_EscAttr.calls (a0 : ByteArray) (r : ByteArray) (w : World) (hTab : Tabs w) (h : impl_EscAttr.f a0 = some r) :
  Calls Tryz.prog 135 #[.string a0] w fun e w' => e = .returned (.string r) ∧ Below w.heap.size w w' := by
 have HT := Aside0.mk hTab
 clear hTab
 have HB := Aside0.mk (Below.refl w.heap.size w)
 have H : ((impl_EscText.f a0).bind fun t388 => ((strings_ReplaceAll.f t388 (⟨#[34]⟩ : ByteArray) (⟨#[38, 113, 117, 111, 116, 59]⟩ : ByteArray)).bind fun t389 => ((strings_ReplaceAll.f t389 (⟨#[9]⟩ : ByteArray) (⟨#[38, 35, 57, 59]⟩ : ByteArray)).bind fun t390 => ((strings_ReplaceAll.f t390 (⟨#[10]⟩ : ByteArray) (⟨#[38, 35, 49, 48, 59]⟩ : ByteArray)).bind fun t391 => (some t391))))) = some r := h
 clear h
 replace H := Option.bind_eq_some_iff.mp H
 obtain ⟨t388, A20, H⟩ := H
 try dsimp only at H
 have A2 := Aside0.mk A20
 clear A20
 replace H := Option.bind_eq_some_iff.mp H
 obtain ⟨t389, A30, H⟩ := H
 try dsimp only at H
 have A3 := Aside0.mk A30
 clear A30
 replace H := Option.bind_eq_some_iff.mp H
 obtain ⟨t390, A40, H⟩ := H
 try dsimp only at H
 have A4 := Aside0.mk A40
 clear A40
 replace H := Option.bind_eq_some_iff.mp H
 obtain ⟨t391, A50, H⟩ := H
 try dsimp only at H
 have A5 := Aside0.mk A50
 clear A50
 obtain rfl := Option.some.inj H
 go_enter Tryz.func135, Tryz.ntmps135
 go_wp2_with (first | ((with_reducible refine gate_callee (f := 132) rfl ?_); refine goesL_ (some 4) rfl rfl Tryz.func132 (by kernel_rfl) rfl #[.string a0] rfl mA ?_; (with_reducible refine (impl_EscText.calls a0 t388 _ ?tabs A2.out).mono ?_); (case tabs => first | exact Tabs.below HT.out hB | (repeat (first | exact HT.out | (with_reducible refine Tabs.drewN ?_ _) | (with_reducible refine Tabs.drew ?_) | (with_reducible refine Tabs.alloc ?_ _)))); rintro e w6 ⟨rfl, hb⟩; refine ⟨_, rfl, ?_⟩; replace HB := Aside0.mk (below_step hB hb); (try clear hb); (try clear hb2); (try clear hk); (try clear hi)) | ((with_reducible refine gate_callee (f := 154) rfl ?_); refine goesL_ (some 5) rfl rfl Tryz.func154 (by kernel_rfl) rfl #[.string t388, .string (⟨#[34]⟩ : ByteArray), .string (⟨#[38, 113, 117, 111, 116, 59]⟩ : ByteArray)] rfl mA ?_; (with_reducible refine (strings_ReplaceAll.calls t388 (⟨#[34]⟩ : ByteArray) (⟨#[38, 113, 117, 111, 116, 59]⟩ : ByteArray) t389 _ ?tabs A3.out).mono ?_); (case tabs => first | exact Tabs.below HT.out hB | (repeat (first | exact HT.out | (with_reducible refine Tabs.drewN ?_ _) | (with_reducible refine Tabs.drew ?_) | (with_reducible refine Tabs.alloc ?_ _)))); rintro e w7 ⟨rfl, hb⟩; refine ⟨_, rfl, ?_⟩; replace HB := Aside0.mk (below_step hB hb); (try clear hb); (try clear hb2); (try clear hk); (try clear hi)) | ((with_reducible refine gate_callee (f := 154) rfl ?_); refine goesL_ (some 7) rfl rfl Tryz.func154 (by kernel_rfl) rfl #[.string t389, .string (⟨#[9]⟩ : ByteArray), .string (⟨#[38, 35, 57, 59]⟩ : ByteArray)] rfl mA ?_; (with_reducible refine (strings_ReplaceAll.calls t389 (⟨#[9]⟩ : ByteArray) (⟨#[38, 35, 57, 59]⟩ : ByteArray) t390 _ ?tabs A4.out).mono ?_); (case tabs => first | exact Tabs.below HT.out hB | (repeat (first | exact HT.out | (with_reducible refine Tabs.drewN ?_ _) | (with_reducible refine Tabs.drew ?_) | (with_reducible refine Tabs.alloc ?_ _)))); rintro e w8 ⟨rfl, hb⟩; refine ⟨_, rfl, ?_⟩; replace HB := Aside0.mk (below_step hB hb); (try clear hb); (try clear hb2); (try clear hk); (try clear hi)) | ((with_reducible refine gate_callee (f := 154) rfl ?_); refine goesL_ (some 9) rfl rfl Tryz.func154 (by kernel_rfl) rfl #[.string t390, .string (⟨#[10]⟩ : ByteArray), .string (⟨#[38, 35, 49, 48, 59]⟩ : ByteArray)] rfl mA ?_; (with_reducible refine (strings_ReplaceAll.calls t390 (⟨#[10]⟩ : ByteArray) (⟨#[38, 35, 49, 48, 59]⟩ : ByteArray) t391 _ ?tabs A5.out).mono ?_); (case tabs => first | exact Tabs.below HT.out hB | (repeat (first | exact HT.out | (with_reducible refine Tabs.drewN ?_ _) | (with_reducible refine Tabs.drew ?_) | (with_reducible refine Tabs.alloc ?_ _)))); rintro e w9 ⟨rfl, hb⟩; refine ⟨_, rfl, ?_⟩; replace HB := Aside0.mk (below_step hB hb); (try clear hb); (try clear hb2); (try clear hk); (try clear hi)))
 go_ret
 exact ⟨rE, hB⟩

/-! ### impl_declText: function 134 -/
def impl_declText.f (a0_0 : ByteArray) (a0_1 : ByteArray) : Option (ByteArray) := if a0_0.toList = ([] : List UInt8) then (if 1 + 5 ≤ 9223372036854775807 then (if 5 + 2 ≤ 9223372036854775807 then ((impl_EscAttr.f a0_1).bind fun t393 => (if (((⟨#[32]⟩ : ByteArray) ++ (⟨#[120, 109, 108, 110, 115]⟩ : ByteArray)) ++ (⟨#[61, 34]⟩ : ByteArray)).size + t393.size ≤ 9223372036854775807 then (if ((((⟨#[32]⟩ : ByteArray) ++ (⟨#[120, 109, 108, 110, 115]⟩ : ByteArray)) ++ (⟨#[61, 34]⟩ : ByteArray)) ++ t393).size + 1 ≤ 9223372036854775807 then (some (((((⟨#[32]⟩ : ByteArray) ++ (⟨#[120, 109, 108, 110, 115]⟩ : ByteArray)) ++ (⟨#[61, 34]⟩ : ByteArray)) ++ t393) ++ (⟨#[34]⟩ : ByteArray))) else (none)) else (none))) else (none)) else (none)) else (if 1 + a0_0.size ≤ 9223372036854775807 then (if 5 + ((⟨#[58]⟩ : ByteArray) ++ a0_0).size ≤ 9223372036854775807 then (if 1 + ((⟨#[120, 109, 108, 110, 115]⟩ : ByteArray) ++ ((⟨#[58]⟩ : ByteArray) ++ a0_0)).size ≤ 9223372036854775807 then (if ((⟨#[32]⟩ : ByteArray) ++ ((⟨#[120, 109, 108, 110, 115]⟩ : ByteArray) ++ ((⟨#[58]⟩ : ByteArray) ++ a0_0))).size + 2 ≤ 9223372036854775807 then ((impl_EscAttr.f a0_1).bind fun t394 => (if (((⟨#[32]⟩ : ByteArray) ++ ((⟨#[120, 109, 108, 110, 115]⟩ : ByteArray) ++ ((⟨#[58]⟩ : ByteArray) ++ a0_0))) ++ (⟨#[61, 34]⟩ : ByteArray)).size + t394.size ≤ 9223372036854775807 then (if ((((⟨#[32]⟩ : ByteArray) ++ ((⟨#[120, 109, 108, 110, 115]⟩ : ByteArray) ++ ((⟨#[58]⟩ : ByteArray) ++ a0_0))) ++ (⟨#[61, 34]⟩ : ByteArray)) ++ t394).size + 1 ≤ 9223372036854775807 then (some (((((⟨#[32]⟩ : ByteArray) ++ ((⟨#[120, 109, 108, 110, 115]⟩ : ByteArray) ++ ((⟨#[58]⟩ : ByteArray) ++ a0_0))) ++ (⟨#[61, 34]⟩ : ByteArray)) ++ t394) ++ (⟨#[34]⟩ : ByteArray))) else (none)) else (none))) else (none)) else (none)) else (none)) else (none))
theorem impl_declText.calls (a0_0 : ByteArray) (a0_1 : ByteArray) (r : ByteArray) (w : World) (hTab : Tabs w) (h : impl_declText.f a0_0 a0_1 = some r) :
  Calls Tryz.prog 134 #[.agg #[.string a0_0, .string a0_1]] w fun e w' => e = .returned (.string r) ∧ Below w.heap.size w w' := by
 have HT := Aside0.mk hTab
 clear hTab
 have hu73 := Tryz.underlying73
 have HB := Aside0.mk (Below.refl w.heap.size w)
 have H : (if a0_0.toList = ([] : List UInt8) then (if 1 + 5 ≤ 9223372036854775807 then (if 5 + 2 ≤ 9223372036854775807 then ((impl_EscAttr.f a0_1).bind fun t393 => (if (((⟨#[32]⟩ : ByteArray) ++ (⟨#[120, 109, 108, 110, 115]⟩ : ByteArray)) ++ (⟨#[61, 34]⟩ : ByteArray)).size + t393.size ≤ 9223372036854775807 then (if ((((⟨#[32]⟩ : ByteArray) ++ (⟨#[120, 109, 108, 110, 115]⟩ : ByteArray)) ++ (⟨#[61, 34]⟩ : ByteArray)) ++ t393).size + 1 ≤ 9223372036854775807 then (some (((((⟨#[32]⟩ : ByteArray) ++ (⟨#[120, 109, 108, 110, 115]⟩ : ByteArray)) ++ (⟨#[61, 34]⟩ : ByteArray)) ++ t393) ++ (⟨#[34]⟩ : ByteArray))) else (none)) else (none))) else (none)) else (none)) else (if 1 + a0_0.size ≤ 9223372036854775807 then (if 5 + ((⟨#[58]⟩ : ByteArray) ++ a0_0).size ≤ 9223372036854775807 then (if 1 + ((⟨#[120, 109, 108, 110, 115]⟩ : ByteArray) ++ ((⟨#[58]⟩ : ByteArray) ++ a0_0)).size ≤ 9223372036854775807 then (if ((⟨#[32]⟩ : ByteArray) ++ ((⟨#[120, 109, 108, 110, 115]⟩ : ByteArray) ++ ((⟨#[58]⟩ : ByteArray) ++ a0_0))).size + 2 ≤ 9223372036854775807 then ((impl_EscAttr.f a0_1).bind fun t394 => (if (((⟨#[32]⟩ : ByteArray) ++ ((⟨#[120, 109, 108, 110, 115]⟩ : ByteArray) ++ ((⟨#[58]⟩ : ByteArray) ++ a0_0))) ++ (⟨#[61, 34]⟩ : ByteArray)).size + t394.size ≤ 9223372036854775807 then (if ((((⟨#[32]⟩ : ByteArray) ++ ((⟨#[120, 109, 108, 110, 115]⟩ : ByteArray) ++ ((⟨#[58]⟩ : ByteArray) ++ a0_0))) ++ (⟨#[61, 34]⟩ : ByteArray)) ++ t394).size + 1 ≤ 9223372036854775807 then (some (((((⟨#[32]⟩ : ByteArray) ++ ((⟨#[120, 109, 108, 110, 115]⟩ : ByteArray) ++ ((⟨#[58]⟩ : ByteArray) ++ a0_0))) ++ (⟨#[61, 34]⟩ : ByteArray)) ++ t394) ++ (⟨#[34]⟩ : ByteArray))) else (none)) else (none))) else (none)) else (none)) else (none)) else (none))) = some r := h
 clear h
 go_enter Tryz.func134, Tryz.ntmps134
 go_wp2_with (first | ((with_reducible refine gate_dst (N := 1) rfl ?_); refine box_event ?hg (N := 1) ?hd (cs := #[.string a0_0, .string a0_1]) (t := 73) ?hr ?_; (case hd => rfl); (case hg => rfl); (case hr => first | (go_simp; done) | (go_simp; rfl)); intro gb392 hg w2 hbox hb; have BK392 := Aside0.mk (hbox); have GW392 := Aside0.mk ((by rw [hg]; exact (below_size hB) : w.heap.size ≤ gb392)); have GE392 := Aside0.mk ((by rw [hg]; exact (below_size hB) : w.heap.size ≤ gb392)); replace HB := Aside0.mk (below_step hB hb); clear hb hbox hg; obtain ⟨hcz3_0, hcz3_1⟩ := bc2 BK392.out; refine halt_ ?_; intro q_ hq_))
 obtain ⟨rfl⟩ := hq_
 by_cases c4 : a0_0.toList = ([] : List UInt8)
 ·rw [if_pos c4] at H
  obtain ⟨c4b0, c4b1⟩ := eqT c4
  clear c4
  obtain ⟨c5, H⟩ := if_som H
  obtain ⟨c5b0, c5b1⟩ := fcT c5
  try have c5b2 : (9223372036854775807 < 1 + 5) = False := eq_false (Nat.not_lt.2 c5)
  obtain ⟨c6, H⟩ := if_som H
  obtain ⟨c6b0, c6b1⟩ := fcT c6
  try have c6b2 : (9223372036854775807 < 5 + 2) = False := eq_false (Nat.not_lt.2 c6)
  replace H := Option.bind_eq_some_iff.mp H
  obtain ⟨t393, A70, H⟩ := H
  try dsimp only at H
  have A7 := Aside0.mk A70
  clear A70
  obtain ⟨c8, H⟩ := if_som H
  obtain ⟨c8b0, c8b1⟩ := fcT c8
  try have c8b2 : (9223372036854775807 < 1 + 5 + 2 + t393.size) = False := eq_false (by have h_ := c8; simp only [ByteArray.size_append] at h_; exact Nat.not_lt.2 h_)
  obtain ⟨c9, H⟩ := if_som H
  obtain ⟨c9b0, c9b1⟩ := fcT c9
  try have c9b2 : (9223372036854775807 < 1 + 5 + 2 + t393.size + 1) = False := eq_false (by have h_ := c9; simp only [ByteArray.size_append] at h_; exact Nat.not_lt.2 h_)
  obtain rfl := Option.some.inj H
  obtain ⟨hcz10_0, hcz10_1⟩ := bc2 BK392.out
  go_wp2_with (first | ((with_reducible refine gate_callee (f := 135) rfl ?_); refine goesL_ (some 17) rfl rfl Tryz.func135 (by kernel_rfl) rfl #[.string a0_1] rfl mA ?_; (with_reducible refine (impl_EscAttr.calls a0_1 t393 _ ?tabs A7.out).mono ?_); (case tabs => first | exact Tabs.below HT.out hB | (repeat (first | exact HT.out | (with_reducible refine Tabs.drewN ?_ _) | (with_reducible refine Tabs.drew ?_) | (with_reducible refine Tabs.alloc ?_ _)))); rintro e w11 ⟨rfl, hb⟩; refine ⟨_, rfl, ?_⟩; replace BK392 := Aside0.mk (blk_below (g := gb392) (by (with_reducible repeat (first | refine bN ?_ _|refine bD ?_|refine bA ?_ _)); exact BK392.out) hb); replace HB := Aside0.mk (below_step hB hb); (try clear hb); (try clear hb2); (try clear hk); (try clear hi)))
  go_ret
  exact ⟨rE, hB⟩
 ·rw [if_neg c4] at H
  obtain ⟨c4b0, c4b1⟩ := eqF c4
  obtain ⟨c12, H⟩ := if_som H
  obtain ⟨c12b0, c12b1⟩ := fcT c12
  try have c12b2 : (9223372036854775807 < 1 + a0_0.size) = False := eq_false (Nat.not_lt.2 c12)
  obtain ⟨c13, H⟩ := if_som H
  obtain ⟨c13b0, c13b1⟩ := fcT c13
  try have c13b2 : (9223372036854775807 < 5 + (1 + a0_0.size)) = False := eq_false (by have h_ := c13; simp only [ByteArray.size_append] at h_; exact Nat.not_lt.2 h_)
  obtain ⟨c14, H⟩ := if_som H
  obtain ⟨c14b0, c14b1⟩ := fcT c14
  try have c14b2 : (9223372036854775807 < 1 + (5 + (1 + a0_0.size))) = False := eq_false (by have h_ := c14; simp only [ByteArray.size_append] at h_; exact Nat.not_lt.2 h_)
  obtain ⟨c15, H⟩ := if_som H
  obtain ⟨c15b0, c15b1⟩ := fcT c15
  try have c15b2 : (9223372036854775807 < 1 + (5 + (1 + a0_0.size)) + 2) = False := eq_false (by have h_ := c15; simp only [ByteArray.size_append] at h_; exact Nat.not_lt.2 h_)
  replace H := Option.bind_eq_some_iff.mp H
  obtain ⟨t394, A160, H⟩ := H
  try dsimp only at H
  have A16 := Aside0.mk A160
  clear A160
  obtain ⟨c17, H⟩ := if_som H
  obtain ⟨c17b0, c17b1⟩ := fcT c17
  try have c17b2 : (9223372036854775807 < 1 + (5 + (1 + a0_0.size)) + 2 + t394.size) = False := eq_false (by have h_ := c17; simp only [ByteArray.size_append] at h_; exact Nat.not_lt.2 h_)
  obtain ⟨c18, H⟩ := if_som H
  obtain ⟨c18b0, c18b1⟩ := fcT c18
  try have c18b2 : (9223372036854775807 < 1 + (5 + (1 + a0_0.size)) + 2 + t394.size + 1) = False := eq_false (by have h_ := c18; simp only [ByteArray.size_append] at h_; exact Nat.not_lt.2 h_)
  obtain rfl := Option.some.inj H
  obtain ⟨hcz19_0, hcz19_1⟩ := bc2 BK392.out
  go_wp2_with (first | ((with_reducible refine gate_callee (f := 135) rfl ?_); refine goesL_ (some 17) rfl rfl Tryz.func135 (by kernel_rfl) rfl #[.string a0_1] rfl mA ?_; (with_reducible refine (impl_EscAttr.calls a0_1 t394 _ ?tabs A16.out).mono ?_); (case tabs => first | exact Tabs.below HT.out hB | (repeat (first | exact HT.out | (with_reducible refine Tabs.drewN ?_ _) | (with_reducible refine Tabs.drew ?_) | (with_reducible refine Tabs.alloc ?_ _)))); rintro e w20 ⟨rfl, hb⟩; refine ⟨_, rfl, ?_⟩; replace BK392 := Aside0.mk (blk_below (g := gb392) (by (with_reducible repeat (first | refine bN ?_ _|refine bD ?_|refine bA ?_ _)); exact BK392.out) hb); replace HB := Aside0.mk (below_step hB hb); (try clear hb); (try clear hb2); (try clear hk); (try clear hi)))
  go_ret
  exact ⟨rE, hB⟩
end Go.Proofs.YtalionlkjdgciaaGreatDoor.PA
