-- Written by the session's program hprint.py, over the kit's print program. Lean checks it.
import Derived.Test.YtalionlkjdgciaaGreatDoorPAx0
import Derived.Test.YtalionlkjdgciaaGreatDoorPAx10
import Derived.Test.YtalionlkjdgciaaGreatDoorPAx11
namespace Go.Proofs.YtalionlkjdgciaaGreatDoor.PA
open Go.RowKit Go.Proofs.YtalionlkjdgciaaGreatDoorW.PrintWords Go.Proofs.YtalionlkjdgciaaGreatDoorW.PrintLast Go.Proofs.YtalionlkjdgciaaGreatDoorW.PrintMore
attribute [local go_sem] max2_int min2_int max_two min_two max_three min_three max_four min_four   -- for this text's walks alone
set_option linter.unusedVariables false
set_option linter.unusedSimpArgs false
set_option maxHeartbeats 8000000
set_option maxRecDepth 100000

/-! ### spec_l9Write: function 93 -/
mutual
def spec_l9Write.l0 : Nat → ByteArray → Int → Int → ByteArray → ByteArray → ByteArray → List (S73) → List (S68) → List (S28) → ByteArray → Option (ByteArray)
 | 0, _, _, _, _, _, _, _, _, _, _ => none
 | k + 1, x3, x4, x286000, x286001, x286002, x286003, x286004, x286005, x286006, x286007 => if x4 < (x286006.length : Int) then (if 0 ≤ x4 then ((spec_l9Write.f k ((rd_T28 x286006 x4).f0) ((rd_T28 x286006 x4).f1) ((rd_T28 x286006 x4).f2) ((rd_T28 x286006 x4).f3) ((rd_T28 x286006 x4).f4) ((rd_T28 x286006 x4).f5) ((rd_T28 x286006 x4).f6) ((rd_T28 x286006 x4).f7)).bind fun t288 => (if x3.size + t288.size ≤ 9223372036854775807 then (spec_l9Write.l0 k (x3 ++ t288) (wrap64 (x4 + 1)) x286000 x286001 x286002 x286003 x286004 x286005 x286006 x286007) else (none))) else (none)) else (if x286000 = 0 then (some x3) else ((spec_JoinName.f k x286001 x286002).bind fun t289 => (if 1 + t289.size ≤ 9223372036854775807 then (spec_l9Write.l1 k x3 t289 ((⟨#[60]⟩ : ByteArray) ++ t289) 0 x286000 x286001 x286002 x286003 x286004 x286005 x286006 x286007) else (none))))
def spec_l9Write.l1 : Nat → ByteArray → ByteArray → ByteArray → Int → Int → ByteArray → ByteArray → ByteArray → List (S73) → List (S68) → List (S28) → ByteArray → Option (ByteArray)
 | 0, _, _, _, _, _, _, _, _, _, _, _, _ => none
 | k + 1, x3, x5, x6, x7, x286000, x286001, x286002, x286003, x286004, x286005, x286006, x286007 => if x7 < (x286004.length : Int) then (if 0 ≤ x7 then (if ((rd_T73 x286004 x7).f0).toList = ([] : List UInt8) then (if x6.size + 1 ≤ 9223372036854775807 then (if (x6 ++ (⟨#[32]⟩ : ByteArray)).size + 5 ≤ 9223372036854775807 then (if ((x6 ++ (⟨#[32]⟩ : ByteArray)) ++ (⟨#[120, 109, 108, 110, 115]⟩ : ByteArray)).size + 2 ≤ 9223372036854775807 then ((spec_EscAttr.f k ((rd_T73 x286004 x7).f1)).bind fun t292 => (if (((x6 ++ (⟨#[32]⟩ : ByteArray)) ++ (⟨#[120, 109, 108, 110, 115]⟩ : ByteArray)) ++ (⟨#[61, 34]⟩ : ByteArray)).size + t292.size ≤ 9223372036854775807 then (if ((((x6 ++ (⟨#[32]⟩ : ByteArray)) ++ (⟨#[120, 109, 108, 110, 115]⟩ : ByteArray)) ++ (⟨#[61, 34]⟩ : ByteArray)) ++ t292).size + 1 ≤ 9223372036854775807 then (spec_l9Write.l1 k x3 x5 (((((x6 ++ (⟨#[32]⟩ : ByteArray)) ++ (⟨#[120, 109, 108, 110, 115]⟩ : ByteArray)) ++ (⟨#[61, 34]⟩ : ByteArray)) ++ t292) ++ (⟨#[34]⟩ : ByteArray)) (wrap64 (x7 + 1)) x286000 x286001 x286002 x286003 x286004 x286005 x286006 x286007) else (none)) else (none))) else (none)) else (none)) else (none)) else (if 6 + ((rd_T73 x286004 x7).f0).size ≤ 9223372036854775807 then (if x6.size + 1 ≤ 9223372036854775807 then (if (x6 ++ (⟨#[32]⟩ : ByteArray)).size + ((⟨#[120, 109, 108, 110, 115, 58]⟩ : ByteArray) ++ ((rd_T73 x286004 x7).f0)).size ≤ 9223372036854775807 then (if ((x6 ++ (⟨#[32]⟩ : ByteArray)) ++ ((⟨#[120, 109, 108, 110, 115, 58]⟩ : ByteArray) ++ ((rd_T73 x286004 x7).f0))).size + 2 ≤ 9223372036854775807 then ((spec_EscAttr.f k ((rd_T73 x286004 x7).f1)).bind fun t293 => (if (((x6 ++ (⟨#[32]⟩ : ByteArray)) ++ ((⟨#[120, 109, 108, 110, 115, 58]⟩ : ByteArray) ++ ((rd_T73 x286004 x7).f0))) ++ (⟨#[61, 34]⟩ : ByteArray)).size + t293.size ≤ 9223372036854775807 then (if ((((x6 ++ (⟨#[32]⟩ : ByteArray)) ++ ((⟨#[120, 109, 108, 110, 115, 58]⟩ : ByteArray) ++ ((rd_T73 x286004 x7).f0))) ++ (⟨#[61, 34]⟩ : ByteArray)) ++ t293).size + 1 ≤ 9223372036854775807 then (spec_l9Write.l1 k x3 x5 (((((x6 ++ (⟨#[32]⟩ : ByteArray)) ++ ((⟨#[120, 109, 108, 110, 115, 58]⟩ : ByteArray) ++ ((rd_T73 x286004 x7).f0))) ++ (⟨#[61, 34]⟩ : ByteArray)) ++ t293) ++ (⟨#[34]⟩ : ByteArray)) (wrap64 (x7 + 1)) x286000 x286001 x286002 x286003 x286004 x286005 x286006 x286007) else (none)) else (none))) else (none)) else (none)) else (none)) else (none))) else (none)) else (spec_l9Write.l2 k x3 x5 x6 0 x286000 x286001 x286002 x286003 x286004 x286005 x286006 x286007)
def spec_l9Write.l2 : Nat → ByteArray → ByteArray → ByteArray → Int → Int → ByteArray → ByteArray → ByteArray → List (S73) → List (S68) → List (S28) → ByteArray → Option (ByteArray)
 | 0, _, _, _, _, _, _, _, _, _, _, _, _ => none
 | k + 1, x3, x5, x6, x10, x286000, x286001, x286002, x286003, x286004, x286005, x286006, x286007 => if x10 < (x286005.length : Int) then (if 0 ≤ x10 then (if x6.size + 1 ≤ 9223372036854775807 then ((spec_JoinName.f k ((rd_T68 x286005 x10).f0) ((rd_T68 x286005 x10).f1)).bind fun t296 => (if (x6 ++ (⟨#[32]⟩ : ByteArray)).size + t296.size ≤ 9223372036854775807 then (if ((x6 ++ (⟨#[32]⟩ : ByteArray)) ++ t296).size + 2 ≤ 9223372036854775807 then ((spec_EscAttr.f k ((rd_T68 x286005 x10).f3)).bind fun t297 => (if (((x6 ++ (⟨#[32]⟩ : ByteArray)) ++ t296) ++ (⟨#[61, 34]⟩ : ByteArray)).size + t297.size ≤ 9223372036854775807 then (if ((((x6 ++ (⟨#[32]⟩ : ByteArray)) ++ t296) ++ (⟨#[61, 34]⟩ : ByteArray)) ++ t297).size + 1 ≤ 9223372036854775807 then (spec_l9Write.l2 k x3 x5 (((((x6 ++ (⟨#[32]⟩ : ByteArray)) ++ t296) ++ (⟨#[61, 34]⟩ : ByteArray)) ++ t297) ++ (⟨#[34]⟩ : ByteArray)) (wrap64 (x10 + 1)) x286000 x286001 x286002 x286003 x286004 x286005 x286006 x286007) else (none)) else (none))) else (none)) else (none))) else (none)) else (none)) else (if (x286006.length : Int) = 0 then (if x6.size + 2 ≤ 9223372036854775807 then (some (x6 ++ (⟨#[47, 62]⟩ : ByteArray))) else (none)) else (if x6.size + 1 ≤ 9223372036854775807 then (if (x6 ++ (⟨#[62]⟩ : ByteArray)).size + x3.size ≤ 9223372036854775807 then (if ((x6 ++ (⟨#[62]⟩ : ByteArray)) ++ x3).size + 2 ≤ 9223372036854775807 then (if (((x6 ++ (⟨#[62]⟩ : ByteArray)) ++ x3) ++ (⟨#[60, 47]⟩ : ByteArray)).size + x5.size ≤ 9223372036854775807 then (if ((((x6 ++ (⟨#[62]⟩ : ByteArray)) ++ x3) ++ (⟨#[60, 47]⟩ : ByteArray)) ++ x5).size + 1 ≤ 9223372036854775807 then (some (((((x6 ++ (⟨#[62]⟩ : ByteArray)) ++ x3) ++ (⟨#[60, 47]⟩ : ByteArray)) ++ x5) ++ (⟨#[62]⟩ : ByteArray))) else (none)) else (none)) else (none)) else (none)) else (none)))
def spec_l9Write.f : Nat → Int → ByteArray → ByteArray → ByteArray → List (S73) → List (S68) → List (S28) → ByteArray → Option (ByteArray)
 | 0, _, _, _, _, _, _, _, _ => none
 | k + 1, a0_0, a0_1, a0_2, a0_3, l0_4, l0_5, l0_6, a0_7 => if a0_0 = 2 then ((spec_EscText.f k a0_7).bind fun t286 => (some t286)) else (if a0_0 = 3 then (if 4 + a0_7.size ≤ 9223372036854775807 then (if ((⟨#[60, 33, 45, 45]⟩ : ByteArray) ++ a0_7).size + 3 ≤ 9223372036854775807 then (some (((⟨#[60, 33, 45, 45]⟩ : ByteArray) ++ a0_7) ++ (⟨#[45, 45, 62]⟩ : ByteArray))) else (none)) else (none)) else (if a0_0 = 4 then (if a0_7.toList = ([] : List UInt8) then (if 2 + a0_2.size ≤ 9223372036854775807 then (if ((⟨#[60, 63]⟩ : ByteArray) ++ a0_2).size + 2 ≤ 9223372036854775807 then (some (((⟨#[60, 63]⟩ : ByteArray) ++ a0_2) ++ (⟨#[63, 62]⟩ : ByteArray))) else (none)) else (none)) else (if 2 + a0_2.size ≤ 9223372036854775807 then (if ((⟨#[60, 63]⟩ : ByteArray) ++ a0_2).size + 1 ≤ 9223372036854775807 then (if (((⟨#[60, 63]⟩ : ByteArray) ++ a0_2) ++ (⟨#[32]⟩ : ByteArray)).size + a0_7.size ≤ 9223372036854775807 then (if ((((⟨#[60, 63]⟩ : ByteArray) ++ a0_2) ++ (⟨#[32]⟩ : ByteArray)) ++ a0_7).size + 2 ≤ 9223372036854775807 then (some (((((⟨#[60, 63]⟩ : ByteArray) ++ a0_2) ++ (⟨#[32]⟩ : ByteArray)) ++ a0_7) ++ (⟨#[63, 62]⟩ : ByteArray))) else (none)) else (none)) else (none)) else (none))) else (spec_l9Write.l0 k (⟨#[]⟩ : ByteArray) 0 a0_0 a0_1 a0_2 a0_3 l0_4 l0_5 l0_6 a0_7)))
end
def spec_l9Write.T31 : Bool × List (List Nat × List Nat) := (true, [([], []), ([0], [0]), ([], []), ([2], [2]), ([], []), ([4], [4]), ([3, 5], [3, 5]), ([1, 6], [1, 6]), ([7], [7]), ([], []), ([9], [9]), ([10, 6], [10]), ([8, 11], [8, 11]), ([12], [12]), ([13, 11, 0, 1, 2, 3, 4, 5, 6, 7, 8, 9, 10, 11, 12, 13], [0, 13])])
def spec_l9Write.B31 : List Nat := [0, 1, 0, 4, 0, 16, 60, 127, 255, 0, 512, 1660, 4095, 8191, 16383]
theorem spec_l9Write.tab31 : rtab .any (opsOf Tryz.f93 31) = spec_l9Write.T31 := by kernel_rfl
theorem spec_l9Write.bits31 : waitsOk spec_l9Write.T31.2 spec_l9Write.B31 = true := by kernel_rfl
theorem spec_l9Write.calls (k : Nat) : ∀ (a0_0 : Int) (a0_1 : ByteArray) (a0_2 : ByteArray) (a0_3 : ByteArray) (A0_4 : Option Addr) (c0_4 : Nat) (l0_4 : List (S73)) (A0_5 : Option Addr) (c0_5 : Nat) (l0_5 : List (S68)) (A0_6 : Option Addr) (c0_6 : Nat) (l0_6 : List (S28)) (a0_7 : ByteArray) (r : ByteArray) (w : World) (hr0_4 : Kd.C k73 w A0_4 l0_4.length l0_4) (hc0_4 : l0_4.length ≤ c0_4) (hr0_5 : Kd.C k68 w A0_5 l0_5.length l0_5) (hc0_5 : l0_5.length ≤ c0_5) (hr0_6 : Kd.C k28 w A0_6 l0_6.length l0_6) (hc0_6 : l0_6.length ≤ c0_6) (h : spec_l9Write.f k a0_0 a0_1 a0_2 a0_3 l0_4 l0_5 l0_6 a0_7 = some r),
  Calls Tryz.prog 93 #[.agg #[.int .i64 a0_0, .string a0_1, .string a0_2, .string a0_3, .slice A0_4 l0_4.length c0_4, .slice A0_5 l0_5.length c0_5, .slice A0_6 l0_6.length c0_6, .string a0_7]] w fun e w' => e = .returned (.string r) ∧ Below w.heap.size w w' := by
 induction k using Nat.strongRecOn with
 | _ k ih =>
 intro a0_0 a0_1 a0_2 a0_3 A0_4 c0_4 l0_4 A0_5 c0_5 l0_5 A0_6 c0_6 l0_6 a0_7 r w hr0_4 hc0_4 hr0_5 hc0_5 hr0_6 hc0_6 h
 cases k with
 | zero => exact absurd h (by simp [spec_l9Write.f])
 | succ k =>
 simp only [spec_l9Write.f] at h
 have hu28 := Tryz.underlying28
 have hu73 := Tryz.underlying73
 have hu68 := Tryz.underlying68
 have HR0_4 := Aside0.mk hr0_4
 have HC0_4 := Aside0.mk hc0_4
 clear hr0_4 hc0_4
 have HR0_5 := Aside0.mk hr0_5
 have HC0_5 := Aside0.mk hc0_5
 clear hr0_5 hc0_5
 have HR0_6 := Aside0.mk hr0_6
 have HC0_6 := Aside0.mk hc0_6
 clear hr0_6 hc0_6
 have HB := Aside0.mk (Below.refl w.heap.size w)
 have H : (if a0_0 = 2 then ((spec_EscText.f k a0_7).bind fun t286 => (some t286)) else (if a0_0 = 3 then (if 4 + a0_7.size ≤ 9223372036854775807 then (if ((⟨#[60, 33, 45, 45]⟩ : ByteArray) ++ a0_7).size + 3 ≤ 9223372036854775807 then (some (((⟨#[60, 33, 45, 45]⟩ : ByteArray) ++ a0_7) ++ (⟨#[45, 45, 62]⟩ : ByteArray))) else (none)) else (none)) else (if a0_0 = 4 then (if a0_7.toList = ([] : List UInt8) then (if 2 + a0_2.size ≤ 9223372036854775807 then (if ((⟨#[60, 63]⟩ : ByteArray) ++ a0_2).size + 2 ≤ 9223372036854775807 then (some (((⟨#[60, 63]⟩ : ByteArray) ++ a0_2) ++ (⟨#[63, 62]⟩ : ByteArray))) else (none)) else (none)) else (if 2 + a0_2.size ≤ 9223372036854775807 then (if ((⟨#[60, 63]⟩ : ByteArray) ++ a0_2).size + 1 ≤ 9223372036854775807 then (if (((⟨#[60, 63]⟩ : ByteArray) ++ a0_2) ++ (⟨#[32]⟩ : ByteArray)).size + a0_7.size ≤ 9223372036854775807 then (if ((((⟨#[60, 63]⟩ : ByteArray) ++ a0_2) ++ (⟨#[32]⟩ : ByteArray)) ++ a0_7).size + 2 ≤ 9223372036854775807 then (some (((((⟨#[60, 63]⟩ : ByteArray) ++ a0_2) ++ (⟨#[32]⟩ : ByteArray)) ++ a0_7) ++ (⟨#[63, 62]⟩ : ByteArray))) else (none)) else (none)) else (none)) else (none))) else (spec_l9Write.l0 k (⟨#[]⟩ : ByteArray) 0 a0_0 a0_1 a0_2 a0_3 l0_4 l0_5 l0_6 a0_7)))) = some r := h
 clear h
 go_enter Tryz.func93, Tryz.ntmps93
 go_wp2_with (first | ((with_reducible refine gate_dst (N := 1) rfl ?_); refine box_event ?hg (N := 1) ?hd (cs := #[.int .i64 a0_0, .string a0_1, .string a0_2, .string a0_3, .slice A0_4 l0_4.length c0_4, .slice A0_5 l0_5.length c0_5, .slice A0_6 l0_6.length c0_6, .string a0_7]) (t := 28) ?hr ?_; (case hd => rfl); (case hg => rfl); (case hr => first | (go_simp; done) | (go_simp; rfl)); intro gb285 hg w2 hbox hb; have BK285 := Aside0.mk (hbox); have GW285 := Aside0.mk ((by rw [hg]; exact (below_size hB) : w.heap.size ≤ gb285)); have GE285 := Aside0.mk ((by rw [hg]; exact (below_size hB) : w.heap.size ≤ gb285)); replace HB := Aside0.mk (below_step hB hb); clear hb hbox hg; obtain ⟨hcz3_0, hcz3_1, hcz3_2, hcz3_3, hcz3_4, hcz3_5, hcz3_6, hcz3_7⟩ := bc8 BK285.out; obtain ⟨hfz3_0, hfz3_1, hfz3_2, hfz3_3, hfz3_4, hfz3_5, hfz3_6, hfz3_7⟩ := bf8 BK285.out; refine halt_ ?_; intro q_ hq_))
 obtain ⟨rfl⟩ := hq_
 by_cases c4 : a0_0 = 2
 ·rw [if_pos c4] at H
  obtain ⟨c4b0, c4b1⟩ := eqT c4
  clear c4
  replace H := Option.bind_eq_some_iff.mp H
  obtain ⟨t286, A50, H⟩ := H
  try dsimp only at H
  have A5 := Aside0.mk A50
  clear A50
  obtain rfl := Option.some.inj H
  obtain ⟨hcz6_0, hcz6_1, hcz6_2, hcz6_3, hcz6_4, hcz6_5, hcz6_6, hcz6_7⟩ := bc8 BK285.out
  obtain ⟨hfz6_0, hfz6_1, hfz6_2, hfz6_3, hfz6_4, hfz6_5, hfz6_6, hfz6_7⟩ := bf8 BK285.out
  go_wp2_with (first | ((with_reducible refine gate_callee (f := 129) rfl ?_); refine goesL_ (some 18) rfl rfl Tryz.func129 (by kernel_rfl) rfl #[.string a0_7] rfl mA ?_; (with_reducible refine (spec_EscText.calls k a0_7 t286 _ A5.out).mono ?_); rintro e w' ⟨rfl, ⟨nd, rfl⟩⟩; refine ⟨_, rfl, ?_⟩))
  go_ret
  exact ⟨rE, hB⟩
 ·rw [if_neg c4] at H
  obtain ⟨c4b0, c4b1⟩ := eqF c4
  by_cases c7 : a0_0 = 3
  ·rw [if_pos c7] at H
   obtain ⟨c7b0, c7b1⟩ := eqT c7
   clear c7
   obtain ⟨c8, H⟩ := if_som H
   obtain ⟨c8b0, c8b1⟩ := fcT c8
   try have c8b2 : (9223372036854775807 < 4 + a0_7.size) = False := eq_false (Nat.not_lt.2 c8)
   obtain ⟨c9, H⟩ := if_som H
   obtain ⟨c9b0, c9b1⟩ := fcT c9
   try have c9b2 : (9223372036854775807 < 4 + a0_7.size + 3) = False := eq_false (by have h_ := c9; simp only [ByteArray.size_append] at h_; exact Nat.not_lt.2 h_)
   obtain rfl := Option.some.inj H
   obtain ⟨hcz10_0, hcz10_1, hcz10_2, hcz10_3, hcz10_4, hcz10_5, hcz10_6, hcz10_7⟩ := bc8 BK285.out
   obtain ⟨hfz10_0, hfz10_1, hfz10_2, hfz10_3, hfz10_4, hfz10_5, hfz10_6, hfz10_7⟩ := bf8 BK285.out
   go_wp2
   go_ret
   exact ⟨rE, hB⟩
  ·rw [if_neg c7] at H
   obtain ⟨c7b0, c7b1⟩ := eqF c7
   by_cases c11 : a0_0 = 4
   ·rw [if_pos c11] at H
    obtain ⟨c11b0, c11b1⟩ := eqT c11
    clear c11
    by_cases c12 : a0_7.toList = ([] : List UInt8)
    ·rw [if_pos c12] at H
     obtain ⟨c12b0, c12b1⟩ := eqT c12
     clear c12
     obtain ⟨c13, H⟩ := if_som H
     obtain ⟨c13b0, c13b1⟩ := fcT c13
     try have c13b2 : (9223372036854775807 < 2 + a0_2.size) = False := eq_false (Nat.not_lt.2 c13)
     obtain ⟨c14, H⟩ := if_som H
     obtain ⟨c14b0, c14b1⟩ := fcT c14
     try have c14b2 : (9223372036854775807 < 2 + a0_2.size + 2) = False := eq_false (by have h_ := c14; simp only [ByteArray.size_append] at h_; exact Nat.not_lt.2 h_)
     obtain rfl := Option.some.inj H
     obtain ⟨hcz15_0, hcz15_1, hcz15_2, hcz15_3, hcz15_4, hcz15_5, hcz15_6, hcz15_7⟩ := bc8 BK285.out
     obtain ⟨hfz15_0, hfz15_1, hfz15_2, hfz15_3, hfz15_4, hfz15_5, hfz15_6, hfz15_7⟩ := bf8 BK285.out
     go_wp2
     go_ret
     exact ⟨rE, hB⟩
    ·rw [if_neg c12] at H
     obtain ⟨c12b0, c12b1⟩ := eqF c12
     obtain ⟨c16, H⟩ := if_som H
     obtain ⟨c16b0, c16b1⟩ := fcT c16
     try have c16b2 : (9223372036854775807 < 2 + a0_2.size) = False := eq_false (Nat.not_lt.2 c16)
     obtain ⟨c17, H⟩ := if_som H
     obtain ⟨c17b0, c17b1⟩ := fcT c17
     try have c17b2 : (9223372036854775807 < 2 + a0_2.size + 1) = False := eq_false (by have h_ := c17; simp only [ByteArray.size_append] at h_; exact Nat.not_lt.2 h_)
     obtain ⟨c18, H⟩ := if_som H
     obtain ⟨c18b0, c18b1⟩ := fcT c18
     try have c18b2 : (9223372036854775807 < 2 + a0_2.size + 1 + a0_7.size) = False := eq_false (by have h_ := c18; simp only [ByteArray.size_append] at h_; exact Nat.not_lt.2 h_)
     obtain ⟨c19, H⟩ := if_som H
     obtain ⟨c19b0, c19b1⟩ := fcT c19
     try have c19b2 : (9223372036854775807 < 2 + a0_2.size + 1 + a0_7.size + 2) = False := eq_false (by have h_ := c19; simp only [ByteArray.size_append] at h_; exact Nat.not_lt.2 h_)
     obtain rfl := Option.some.inj H
     obtain ⟨hcz20_0, hcz20_1, hcz20_2, hcz20_3, hcz20_4, hcz20_5, hcz20_6, hcz20_7⟩ := bc8 BK285.out
     obtain ⟨hfz20_0, hfz20_1, hfz20_2, hfz20_3, hfz20_4, hfz20_5, hfz20_6, hfz20_7⟩ := bf8 BK285.out
     go_wp2
     go_ret
     exact ⟨rE, hB⟩
   ·rw [if_neg c11] at H
    obtain ⟨c11b0, c11b1⟩ := eqF c11
    have H' := Aside0.mk H
    clear H
    go_wp2
    go_loopg [3, 4] k (fun kq v3 v4 w' => ∃ (x3_1 : ByteArray) (x4_1 : Int), v3 = .string x3_1 ∧ v4 = .int .i64 x4_1 ∧ Aside0 (spec_l9Write.l0 kq x3_1 x4_1 a0_0 a0_1 a0_2 a0_3 l0_4 l0_5 l0_6 a0_7 = some r) ∧ Aside0 (kq ≤ k) ∧ Aside0 (w'.heap[gb285]? = some (.cells #[.int .i64 a0_0, .string a0_1, .string a0_2, .string a0_3, (.slice A0_4 l0_4.length c0_4), (.slice A0_5 l0_5.length c0_5), (.slice A0_6 l0_6.length c0_6), .string a0_7] 28 (0, 0))) ∧ Aside0 (Below w.heap.size w w'))
    case atStart => exact ⟨((⟨#[]⟩ : ByteArray)), (0), rG, rG, H', ⟨Nat.le_refl _⟩, ⟨by (with_reducible repeat (first | refine bN ?_ _|refine bD ?_|refine bA ?_ _)); exact BK285.out⟩, ⟨hB⟩⟩
    case round =>
     clear H'
     try clear c11b1; try clear c11; try clear c11b0; try clear c7b1; try clear c7; try clear c7b0; try clear c4b1; try clear c4; try clear c4b0
     try clear hcz3_0 hcz3_1 hcz3_2 hcz3_3 hcz3_4 hcz3_5 hcz3_6 hcz3_7
     try clear hfz3_0 hfz3_1 hfz3_2 hfz3_3 hfz3_4 hfz3_5 hfz3_6 hfz3_7
     obtain ⟨x3_1, x4_1, rfl, rfl, HA, HK1, BK285, HB⟩ := hrel
     cases gk with
     | zero => exact absurd HA.out (by simp [spec_l9Write.l0])
     | succ k1 =>
      have H := HA.out
      clear HA
      simp only [spec_l9Write.l0] at H
      by_cases c21 : x4_1 < (l0_6.length : Int)
      ·rw [if_pos c21] at H
       have c21b0 : decide (x4_1 < (l0_6.length : Int)) = true := decide_eq_true c21
       clear c21
       obtain ⟨c22, H⟩ := if_som H
       have c22b0 : decide (0 ≤ x4_1) = true := decide_eq_true c22
       clear c22
       replace H := Option.bind_eq_some_iff.mp H
       obtain ⟨t288, A230, H⟩ := H
       try dsimp only at H
       have A23 := Aside0.mk A230
       clear A230
       obtain ⟨c24, H⟩ := if_som H
       obtain ⟨c24b0, c24b1⟩ := fcT c24
       try have c24b2 : (9223372036854775807 < x3_1.size + t288.size) = False := eq_false (Nat.not_lt.2 c24)
       have H' := Aside0.mk H
       clear H
       obtain ⟨hcz25_0, hcz25_1, hcz25_2, hcz25_3, hcz25_4, hcz25_5, hcz25_6, hcz25_7⟩ := bc8 BK285.out
       obtain ⟨hfz25_0, hfz25_1, hfz25_2, hfz25_3, hfz25_4, hfz25_5, hfz25_6, hfz25_7⟩ := bf8 BK285.out
       have p287 : 0 ≤ (x4_1 : Int) := odt
       have q287 : x4_1 < (l0_6.length : Int) := odt
       obtain ⟨ad287, A287_4, c287_4, A287_5, c287_5, A287_6, c287_6, e287, hx287_0, hx287_1, hx287_2, hx287_3, hx287_4, hx287_5, hx287_6, hx287_7, hl287_4, hi287_4, hl287_5, hi287_5, hl287_6, hi287_6⟩ := at_T28 HR0_6.out x4_1 p287 q287
       cases e287
       replace hx287_0 := pw_cell_below HB.out hx287_0
       replace hx287_1 := pw_cell_below HB.out hx287_1
       replace hx287_2 := pw_cell_below HB.out hx287_2
       replace hx287_3 := pw_cell_below HB.out hx287_3
       replace hx287_4 := pw_cell_below HB.out hx287_4
       replace hx287_5 := pw_cell_below HB.out hx287_5
       replace hx287_6 := pw_cell_below HB.out hx287_6
       replace hx287_7 := pw_cell_below HB.out hx287_7
       have HR287_4 := Aside0.mk hi287_4
       have HC287_4 := Aside0.mk hl287_4
       clear hi287_4 hl287_4
       have HR287_5 := Aside0.mk hi287_5
       have HC287_5 := Aside0.mk hl287_5
       clear hi287_5 hl287_5
       have HR287_6 := Aside0.mk hi287_6
       have HC287_6 := Aside0.mk hl287_6
       clear hi287_6 hl287_6
       replace p287 := eq_true p287
       replace q287 := eq_true q287
       go_wp2_with (first | ((with_reducible refine gate_callee (f := 93) rfl ?_); refine goesL_ (some 55) rfl rfl Tryz.func93 (by kernel_rfl) rfl #[.agg #[.int .i64 ((rd_T28 l0_6 x4_1).f0), .string ((rd_T28 l0_6 x4_1).f1), .string ((rd_T28 l0_6 x4_1).f2), .string ((rd_T28 l0_6 x4_1).f3), .slice A287_4 ((rd_T28 l0_6 x4_1).f4).length c287_4, .slice A287_5 ((rd_T28 l0_6 x4_1).f5).length c287_5, .slice A287_6 ((rd_T28 l0_6 x4_1).f6).length c287_6, .string ((rd_T28 l0_6 x4_1).f7)]] rfl mA ?_; (with_reducible refine (ih k1 (by have := HK1.out; omega) ((rd_T28 l0_6 x4_1).f0) ((rd_T28 l0_6 x4_1).f1) ((rd_T28 l0_6 x4_1).f2) ((rd_T28 l0_6 x4_1).f3) _ _ ((rd_T28 l0_6 x4_1).f4) _ _ ((rd_T28 l0_6 x4_1).f5) _ _ ((rd_T28 l0_6 x4_1).f6) ((rd_T28 l0_6 x4_1).f7) t288 _ ?side1 ?side2 ?side3 ?side4 ?side5 ?side6 A23.out).mono ?_); (case side1 => repeat (first | exact (Kd.C_below HR287_4.out HB.out) | (with_reducible refine Kd.C_alloc ?_ _) | (with_reducible refine Kd.C_drewN ?_ _) | (with_reducible refine Kd.C_drew ?_))); (case side2 => exact HC287_4.out); (case side3 => repeat (first | exact (Kd.C_below HR287_5.out HB.out) | (with_reducible refine Kd.C_alloc ?_ _) | (with_reducible refine Kd.C_drewN ?_ _) | (with_reducible refine Kd.C_drew ?_))); (case side4 => exact HC287_5.out); (case side5 => repeat (first | exact (Kd.C_below HR287_6.out HB.out) | (with_reducible refine Kd.C_alloc ?_ _) | (with_reducible refine Kd.C_drewN ?_ _) | (with_reducible refine Kd.C_drew ?_))); (case side6 => exact HC287_6.out); rintro e w26 ⟨rfl, hb⟩; refine ⟨_, rfl, ?_⟩; replace BK285 := Aside0.mk (blk_below (g := gb285) (by (with_reducible repeat (first | refine bN ?_ _|refine bD ?_|refine bA ?_ _)); exact BK285.out) hb); replace HB := Aside0.mk (below_step hB hb); (try clear hb); (try clear hb2); (try clear hk); (try clear hi)))
       go_roundg k1
       case measure => have := HK1.out; omega
       case rel => exact ⟨(x3_1 ++ t288), (wrap64 (x4_1 + 1)), rG, rG, H', ⟨by have := HK1.out; omega⟩, ⟨by (with_reducible repeat (first | refine bN ?_ _|refine bD ?_|refine bA ?_ _)); exact BK285.out⟩, ⟨hB⟩⟩
      ·rw [if_neg c21] at H
       have c21b0 : decide (x4_1 < (l0_6.length : Int)) = false := decide_eq_false c21
       clear c21
       by_cases c27 : a0_0 = 0
       ·rw [if_pos c27] at H
        obtain ⟨c27b0, c27b1⟩ := eqT c27
        clear c27
        obtain rfl := Option.some.inj H
        obtain ⟨hcz28_0, hcz28_1, hcz28_2, hcz28_3, hcz28_4, hcz28_5, hcz28_6, hcz28_7⟩ := bc8 BK285.out
        obtain ⟨hfz28_0, hfz28_1, hfz28_2, hfz28_3, hfz28_4, hfz28_5, hfz28_6, hfz28_7⟩ := bf8 BK285.out
        go_wp2
        go_ret
        exact ⟨rE, hB⟩
       ·rw [if_neg c27] at H
        obtain ⟨c27b0, c27b1⟩ := eqF c27
        replace H := Option.bind_eq_some_iff.mp H
        obtain ⟨t289, A290, H⟩ := H
        try dsimp only at H
        have A29 := Aside0.mk A290
        clear A290
        obtain ⟨c30, H⟩ := if_som H
        obtain ⟨c30b0, c30b1⟩ := fcT c30
        try have c30b2 : (9223372036854775807 < 1 + t289.size) = False := eq_false (Nat.not_lt.2 c30)
        have H' := Aside0.mk H
        clear H
        obtain ⟨hcz31_0, hcz31_1, hcz31_2, hcz31_3, hcz31_4, hcz31_5, hcz31_6, hcz31_7⟩ := bc8 BK285.out
        obtain ⟨hfz31_0, hfz31_1, hfz31_2, hfz31_3, hfz31_4, hfz31_5, hfz31_6, hfz31_7⟩ := bf8 BK285.out
        go_wp2_with (first | ((with_reducible refine gate_callee (f := 130) rfl ?_); refine goesL_ (some 65) rfl rfl Tryz.func130 (by kernel_rfl) rfl #[.string a0_1, .string a0_2] rfl mA ?_; (with_reducible refine (spec_JoinName.calls k1 a0_1 a0_2 t289 _ A29.out).mono ?_); rintro e w32 ⟨rfl, hb⟩; refine ⟨_, rfl, ?_⟩; replace BK285 := Aside0.mk (blk_below (g := gb285) (by (with_reducible repeat (first | refine bN ?_ _|refine bD ?_|refine bA ?_ _)); exact BK285.out) hb); replace HB := Aside0.mk (below_step hB hb); (try clear hb); (try clear hb2); (try clear hk); (try clear hi)))
        go_loopg [6, 7] k1 (fun kq v6 v7 w' => ∃ (x6_2 : ByteArray) (x7_2 : Int), v6 = .string x6_2 ∧ v7 = .int .i64 x7_2 ∧ Aside0 (spec_l9Write.l1 kq x3_1 t289 x6_2 x7_2 a0_0 a0_1 a0_2 a0_3 l0_4 l0_5 l0_6 a0_7 = some r) ∧ Aside0 (kq ≤ k1) ∧ Aside0 (w'.heap[gb285]? = some (.cells #[.int .i64 a0_0, .string a0_1, .string a0_2, .string a0_3, (.slice A0_4 l0_4.length c0_4), (.slice A0_5 l0_5.length c0_5), (.slice A0_6 l0_6.length c0_6), .string a0_7] 28 (0, 0))) ∧ Aside0 (Below w.heap.size w w'))
        case atStart => exact ⟨((⟨#[60]⟩ : ByteArray) ++ t289), (0), rG, rG, H', ⟨Nat.le_refl _⟩, ⟨by (with_reducible repeat (first | refine bN ?_ _|refine bD ?_|refine bA ?_ _)); exact BK285.out⟩, ⟨hB⟩⟩
        case round =>
         clear H'
         try clear c30b2; try clear c30; try clear c30b1; try clear c30b0; try clear c27b1; try clear c27; try clear c27b0; try clear c21; try clear c21b0; try clear c11b1; try clear c11; try clear c11b0; try clear c7b1; try clear c7; try clear c7b0; try clear c4b1; try clear c4; try clear c4b0
         try clear hcz31_0 hcz31_1 hcz31_2 hcz31_3 hcz31_4 hcz31_5 hcz31_6 hcz31_7
         try clear hcz3_0 hcz3_1 hcz3_2 hcz3_3 hcz3_4 hcz3_5 hcz3_6 hcz3_7
         try clear hfz31_0 hfz31_1 hfz31_2 hfz31_3 hfz31_4 hfz31_5 hfz31_6 hfz31_7
         try clear hfz3_0 hfz3_1 hfz3_2 hfz3_3 hfz3_4 hfz3_5 hfz3_6 hfz3_7
         obtain ⟨x6_2, x7_2, rfl, rfl, HA, HK2, BK285, HB⟩ := hrel
         cases gk with
         | zero => exact absurd HA.out (by simp [spec_l9Write.l1])
         | succ k2 =>
          have H := HA.out
          clear HA
          simp only [spec_l9Write.l1] at H
          by_cases c33 : x7_2 < (l0_4.length : Int)
          ·rw [if_pos c33] at H
           have c33b0 : decide (x7_2 < (l0_4.length : Int)) = true := decide_eq_true c33
           clear c33
           obtain ⟨c34, H⟩ := if_som H
           have c34b0 : decide (0 ≤ x7_2) = true := decide_eq_true c34
           clear c34
           obtain ⟨hcz35_0, hcz35_1, hcz35_2, hcz35_3, hcz35_4, hcz35_5, hcz35_6, hcz35_7⟩ := bc8 BK285.out
           obtain ⟨hfz35_0, hfz35_1, hfz35_2, hfz35_3, hfz35_4, hfz35_5, hfz35_6, hfz35_7⟩ := bf8 BK285.out
           have p290 : 0 ≤ (x7_2 : Int) := odt
           have q290 : x7_2 < (l0_4.length : Int) := odt
           obtain ⟨ad290, e290, hx290_0, hx290_1⟩ := at_T73 HR0_4.out x7_2 p290 q290
           cases e290
           replace hx290_0 := pw_cell_below HB.out hx290_0
           replace hx290_1 := pw_cell_below HB.out hx290_1
           replace p290 := eq_true p290
           replace q290 := eq_true q290
           go_wp2_with (first | ((with_reducible refine gate_dst (N := 8) rfl ?_); refine box_event ?hg (N := 8) ?hd (cs := #[.string (⟨#[]⟩ : ByteArray), .string (⟨#[]⟩ : ByteArray)]) (t := 73) ?hr ?_; (case hd => rfl); (case hg => rfl); (case hr => first | (go_simp; done) | (go_simp; rfl)); intro gb291 hg w36 hbox hb; have BK291 := Aside0.mk (hbox); have GW291 := Aside0.mk ((by rw [hg]; exact (below_size hB) : w.heap.size ≤ gb291)); have GE291 := Aside0.mk ((by rw [hg]; exact (below_size hB) : w.heap.size ≤ gb291)); replace HB := Aside0.mk (below_step hB hb); have NB285_291 := Aside0.mk ((by rw [hg]; exact Nat.ne_of_lt (blk_lt (g := gb285) (by (with_reducible repeat (first | refine bN ?_ _|refine bD ?_|refine bA ?_ _)); exact BK285.out)) : gb285 ≠ gb291)); have NB291_285 := Aside0.mk ((by rw [hg]; exact Nat.ne_of_gt (blk_lt (g := gb285) (by (with_reducible repeat (first | refine bN ?_ _|refine bD ?_|refine bA ?_ _)); exact BK285.out)) : gb291 ≠ gb285)); replace BK285 := Aside0.mk (blk_below (g := gb285) (by (with_reducible repeat (first | refine bN ?_ _|refine bD ?_|refine bA ?_ _)); exact BK285.out) hb); clear hb hbox hg; have hnb37 := NB291_285.out; have hnc37 := NB285_291.out; obtain ⟨hcz38_0, hcz38_1⟩ := bc2 BK291.out; obtain ⟨hfz38_0, hfz38_1⟩ := bf2 BK291.out; refine halt_ ?_; intro q_ hq_))
           obtain ⟨rfl⟩ := hq_
           by_cases c39 : ((rd_T73 l0_4 x7_2).f0).toList = ([] : List UInt8)
           ·rw [if_pos c39] at H
            obtain ⟨c39b0, c39b1⟩ := eqT c39
            clear c39
            obtain ⟨c40, H⟩ := if_som H
            obtain ⟨c40b0, c40b1⟩ := fcT c40
            try have c40b2 : (9223372036854775807 < x6_2.size + 1) = False := eq_false (Nat.not_lt.2 c40)
            obtain ⟨c41, H⟩ := if_som H
            obtain ⟨c41b0, c41b1⟩ := fcT c41
            try have c41b2 : (9223372036854775807 < x6_2.size + 1 + 5) = False := eq_false (by have h_ := c41; simp only [ByteArray.size_append] at h_; exact Nat.not_lt.2 h_)
            obtain ⟨c42, H⟩ := if_som H
            obtain ⟨c42b0, c42b1⟩ := fcT c42
            try have c42b2 : (9223372036854775807 < x6_2.size + 1 + 5 + 2) = False := eq_false (by have h_ := c42; simp only [ByteArray.size_append] at h_; exact Nat.not_lt.2 h_)
            replace H := Option.bind_eq_some_iff.mp H
            obtain ⟨t292, A430, H⟩ := H
            try dsimp only at H
            have A43 := Aside0.mk A430
            clear A430
            obtain ⟨c44, H⟩ := if_som H
            obtain ⟨c44b0, c44b1⟩ := fcT c44
            try have c44b2 : (9223372036854775807 < x6_2.size + 1 + 5 + 2 + t292.size) = False := eq_false (by have h_ := c44; simp only [ByteArray.size_append] at h_; exact Nat.not_lt.2 h_)
            obtain ⟨c45, H⟩ := if_som H
            obtain ⟨c45b0, c45b1⟩ := fcT c45
            try have c45b2 : (9223372036854775807 < x6_2.size + 1 + 5 + 2 + t292.size + 1) = False := eq_false (by have h_ := c45; simp only [ByteArray.size_append] at h_; exact Nat.not_lt.2 h_)
            have H' := Aside0.mk H
            clear H
            have hnb46 := NB291_285.out
            have hnc46 := NB285_291.out
            obtain ⟨hcz47_0, hcz47_1⟩ := bc2 BK291.out
            obtain ⟨hfz47_0, hfz47_1⟩ := bf2 BK291.out
            go_wp2_with (first | ((with_reducible refine gate_callee (f := 131) rfl ?_); refine goesL_ (some 93) rfl rfl Tryz.func131 (by kernel_rfl) rfl #[.string ((rd_T73 l0_4 x7_2).f1)] rfl mA ?_; (with_reducible refine (spec_EscAttr.calls k2 ((rd_T73 l0_4 x7_2).f1) t292 _ A43.out).mono ?_); rintro e w' ⟨rfl, ⟨nd, rfl⟩⟩; refine ⟨_, rfl, ?_⟩))
            go_roundg k2
            case measure => have := HK1.out; have := HK2.out; omega
            case rel => exact ⟨(((((x6_2 ++ (⟨#[32]⟩ : ByteArray)) ++ (⟨#[120, 109, 108, 110, 115]⟩ : ByteArray)) ++ (⟨#[61, 34]⟩ : ByteArray)) ++ t292) ++ (⟨#[34]⟩ : ByteArray)), (wrap64 (x7_2 + 1)), rG, rG, H', ⟨by have := HK1.out; have := HK2.out; omega⟩, ⟨by (with_reducible repeat (first | refine bN ?_ _|refine bD ?_|refine bA ?_ _)); exact pfa2 (hn := NB285_291.out) (by (with_reducible repeat (first | refine bN ?_ _|refine bD ?_|refine bA ?_ _)); exact BK285.out)⟩, ⟨hB⟩⟩
           ·rw [if_neg c39] at H
            obtain ⟨c39b0, c39b1⟩ := eqF c39
            obtain ⟨c48, H⟩ := if_som H
            obtain ⟨c48b0, c48b1⟩ := fcT c48
            try have c48b2 : (9223372036854775807 < 6 + ((rd_T73 l0_4 x7_2).f0).size) = False := eq_false (Nat.not_lt.2 c48)
            obtain ⟨c49, H⟩ := if_som H
            obtain ⟨c49b0, c49b1⟩ := fcT c49
            try have c49b2 : (9223372036854775807 < x6_2.size + 1) = False := eq_false (Nat.not_lt.2 c49)
            obtain ⟨c50, H⟩ := if_som H
            obtain ⟨c50b0, c50b1⟩ := fcT c50
            try have c50b2 : (9223372036854775807 < x6_2.size + 1 + (6 + ((rd_T73 l0_4 x7_2).f0).size)) = False := eq_false (by have h_ := c50; simp only [ByteArray.size_append] at h_; exact Nat.not_lt.2 h_)
            obtain ⟨c51, H⟩ := if_som H
            obtain ⟨c51b0, c51b1⟩ := fcT c51
            try have c51b2 : (9223372036854775807 < x6_2.size + 1 + (6 + ((rd_T73 l0_4 x7_2).f0).size) + 2) = False := eq_false (by have h_ := c51; simp only [ByteArray.size_append] at h_; exact Nat.not_lt.2 h_)
            replace H := Option.bind_eq_some_iff.mp H
            obtain ⟨t293, A520, H⟩ := H
            try dsimp only at H
            have A52 := Aside0.mk A520
            clear A520
            obtain ⟨c53, H⟩ := if_som H
            obtain ⟨c53b0, c53b1⟩ := fcT c53
            try have c53b2 : (9223372036854775807 < x6_2.size + 1 + (6 + ((rd_T73 l0_4 x7_2).f0).size) + 2 + t293.size) = False := eq_false (by have h_ := c53; simp only [ByteArray.size_append] at h_; exact Nat.not_lt.2 h_)
            obtain ⟨c54, H⟩ := if_som H
            obtain ⟨c54b0, c54b1⟩ := fcT c54
            try have c54b2 : (9223372036854775807 < x6_2.size + 1 + (6 + ((rd_T73 l0_4 x7_2).f0).size) + 2 + t293.size + 1) = False := eq_false (by have h_ := c54; simp only [ByteArray.size_append] at h_; exact Nat.not_lt.2 h_)
            have H' := Aside0.mk H
            clear H
            have hnb55 := NB291_285.out
            have hnc55 := NB285_291.out
            obtain ⟨hcz56_0, hcz56_1⟩ := bc2 BK291.out
            obtain ⟨hfz56_0, hfz56_1⟩ := bf2 BK291.out
            go_wp2_with (first | ((with_reducible refine gate_callee (f := 131) rfl ?_); refine goesL_ (some 93) rfl rfl Tryz.func131 (by kernel_rfl) rfl #[.string ((rd_T73 l0_4 x7_2).f1)] rfl mA ?_; (with_reducible refine (spec_EscAttr.calls k2 ((rd_T73 l0_4 x7_2).f1) t293 _ A52.out).mono ?_); rintro e w' ⟨rfl, ⟨nd, rfl⟩⟩; refine ⟨_, rfl, ?_⟩))
            go_roundg k2
            case measure => have := HK1.out; have := HK2.out; omega
            case rel => exact ⟨(((((x6_2 ++ (⟨#[32]⟩ : ByteArray)) ++ ((⟨#[120, 109, 108, 110, 115, 58]⟩ : ByteArray) ++ ((rd_T73 l0_4 x7_2).f0))) ++ (⟨#[61, 34]⟩ : ByteArray)) ++ t293) ++ (⟨#[34]⟩ : ByteArray)), (wrap64 (x7_2 + 1)), rG, rG, H', ⟨by have := HK1.out; have := HK2.out; omega⟩, ⟨by (with_reducible repeat (first | refine bN ?_ _|refine bD ?_|refine bA ?_ _)); exact pfa2 (hn := NB285_291.out) (by (with_reducible repeat (first | refine bN ?_ _|refine bD ?_|refine bA ?_ _)); exact BK285.out)⟩, ⟨hB⟩⟩
          ·rw [if_neg c33] at H
           have c33b0 : decide (x7_2 < (l0_4.length : Int)) = false := decide_eq_false c33
           clear c33
           have H' := Aside0.mk H
           clear H
           obtain ⟨hcz57_0, hcz57_1, hcz57_2, hcz57_3, hcz57_4, hcz57_5, hcz57_6, hcz57_7⟩ := bc8 BK285.out
           obtain ⟨hfz57_0, hfz57_1, hfz57_2, hfz57_3, hfz57_4, hfz57_5, hfz57_6, hfz57_7⟩ := bf8 BK285.out
           go_wp2
           go_loopg [6, 10] k2 (fun kq v6 v10 w' => ∃ (x6_3 : ByteArray) (x10_3 : Int), v6 = .string x6_3 ∧ v10 = .int .i64 x10_3 ∧ Aside0 (spec_l9Write.l2 kq x3_1 t289 x6_3 x10_3 a0_0 a0_1 a0_2 a0_3 l0_4 l0_5 l0_6 a0_7 = some r) ∧ Aside0 (kq ≤ k2) ∧ Aside0 (w'.heap[gb285]? = some (.cells #[.int .i64 a0_0, .string a0_1, .string a0_2, .string a0_3, (.slice A0_4 l0_4.length c0_4), (.slice A0_5 l0_5.length c0_5), (.slice A0_6 l0_6.length c0_6), .string a0_7] 28 (0, 0))) ∧ Aside0 (Below w.heap.size w w'))
           case atStart => exact ⟨(x6_2), (0), rG, rG, H', ⟨Nat.le_refl _⟩, ⟨by (with_reducible repeat (first | refine bN ?_ _|refine bD ?_|refine bA ?_ _)); exact BK285.out⟩, ⟨hB⟩⟩
           case round =>
            clear H'
            try clear c33; try clear c33b0; try clear c30b2; try clear c30; try clear c30b1; try clear c30b0; try clear c27b1; try clear c27; try clear c27b0; try clear c21; try clear c21b0; try clear c11b1; try clear c11; try clear c11b0; try clear c7b1; try clear c7; try clear c7b0; try clear c4b1; try clear c4; try clear c4b0
            try clear hcz31_0 hcz31_1 hcz31_2 hcz31_3 hcz31_4 hcz31_5 hcz31_6 hcz31_7
            try clear hcz3_0 hcz3_1 hcz3_2 hcz3_3 hcz3_4 hcz3_5 hcz3_6 hcz3_7
            try clear hcz57_0 hcz57_1 hcz57_2 hcz57_3 hcz57_4 hcz57_5 hcz57_6 hcz57_7
            try clear hfz31_0 hfz31_1 hfz31_2 hfz31_3 hfz31_4 hfz31_5 hfz31_6 hfz31_7
            try clear hfz3_0 hfz3_1 hfz3_2 hfz3_3 hfz3_4 hfz3_5 hfz3_6 hfz3_7
            try clear hfz57_0 hfz57_1 hfz57_2 hfz57_3 hfz57_4 hfz57_5 hfz57_6 hfz57_7
            obtain ⟨x6_3, x10_3, rfl, rfl, HA, HK3, BK285, HB⟩ := hrel
            cases gk with
            | zero => exact absurd HA.out (by simp [spec_l9Write.l2])
            | succ k3 =>
             have H := HA.out
             clear HA
             simp only [spec_l9Write.l2] at H
             by_cases c58 : x10_3 < (l0_5.length : Int)
             ·rw [if_pos c58] at H
              have c58b0 : decide (x10_3 < (l0_5.length : Int)) = true := decide_eq_true c58
              clear c58
              obtain ⟨c59, H⟩ := if_som H
              have c59b0 : decide (0 ≤ x10_3) = true := decide_eq_true c59
              clear c59
              obtain ⟨c60, H⟩ := if_som H
              obtain ⟨c60b0, c60b1⟩ := fcT c60
              try have c60b2 : (9223372036854775807 < x6_3.size + 1) = False := eq_false (Nat.not_lt.2 c60)
              replace H := Option.bind_eq_some_iff.mp H
              obtain ⟨t296, A610, H⟩ := H
              try dsimp only at H
              have A61 := Aside0.mk A610
              clear A610
              obtain ⟨c62, H⟩ := if_som H
              obtain ⟨c62b0, c62b1⟩ := fcT c62
              try have c62b2 : (9223372036854775807 < x6_3.size + 1 + t296.size) = False := eq_false (by have h_ := c62; simp only [ByteArray.size_append] at h_; exact Nat.not_lt.2 h_)
              obtain ⟨c63, H⟩ := if_som H
              obtain ⟨c63b0, c63b1⟩ := fcT c63
              try have c63b2 : (9223372036854775807 < x6_3.size + 1 + t296.size + 2) = False := eq_false (by have h_ := c63; simp only [ByteArray.size_append] at h_; exact Nat.not_lt.2 h_)
              replace H := Option.bind_eq_some_iff.mp H
              obtain ⟨t297, A640, H⟩ := H
              try dsimp only at H
              have A64 := Aside0.mk A640
              clear A640
              obtain ⟨c65, H⟩ := if_som H
              obtain ⟨c65b0, c65b1⟩ := fcT c65
              try have c65b2 : (9223372036854775807 < x6_3.size + 1 + t296.size + 2 + t297.size) = False := eq_false (by have h_ := c65; simp only [ByteArray.size_append] at h_; exact Nat.not_lt.2 h_)
              obtain ⟨c66, H⟩ := if_som H
              obtain ⟨c66b0, c66b1⟩ := fcT c66
              try have c66b2 : (9223372036854775807 < x6_3.size + 1 + t296.size + 2 + t297.size + 1) = False := eq_false (by have h_ := c66; simp only [ByteArray.size_append] at h_; exact Nat.not_lt.2 h_)
              have H' := Aside0.mk H
              clear H
              obtain ⟨hcz67_0, hcz67_1, hcz67_2, hcz67_3, hcz67_4, hcz67_5, hcz67_6, hcz67_7⟩ := bc8 BK285.out
              obtain ⟨hfz67_0, hfz67_1, hfz67_2, hfz67_3, hfz67_4, hfz67_5, hfz67_6, hfz67_7⟩ := bf8 BK285.out
              have p294 : 0 ≤ (x10_3 : Int) := odt
              have q294 : x10_3 < (l0_5.length : Int) := odt
              obtain ⟨ad294, e294, hx294_0, hx294_1, hx294_2, hx294_3⟩ := at_T68 HR0_5.out x10_3 p294 q294
              cases e294
              replace hx294_0 := pw_cell_below HB.out hx294_0
              replace hx294_1 := pw_cell_below HB.out hx294_1
              replace hx294_2 := pw_cell_below HB.out hx294_2
              replace hx294_3 := pw_cell_below HB.out hx294_3
              replace p294 := eq_true p294
              replace q294 := eq_true q294
              try go_wp2_with (first | ((with_reducible refine gate_dst (N := 11) rfl ?_); refine box_event ?hg (N := 11) ?hd (cs := #[.string (⟨#[]⟩ : ByteArray), .string (⟨#[]⟩ : ByteArray), .string (⟨#[]⟩ : ByteArray), .string (⟨#[]⟩ : ByteArray)]) (t := 68) ?hr ?_; (case hd => rfl); (case hg => rfl); (case hr => first | (go_simp; done) | (go_simp; rfl)); intro gb295 hg w68 hbox hb; have BK295 := Aside0.mk (hbox); have GW295 := Aside0.mk ((by rw [hg]; exact (below_size hB) : w.heap.size ≤ gb295)); have GE295 := Aside0.mk ((by rw [hg]; exact (below_size hB) : w.heap.size ≤ gb295)); replace HB := Aside0.mk (below_step hB hb); have NB285_295 := Aside0.mk ((by rw [hg]; exact Nat.ne_of_lt (blk_lt (g := gb285) (by (with_reducible repeat (first | refine bN ?_ _|refine bD ?_|refine bA ?_ _)); exact BK285.out)) : gb285 ≠ gb295)); have NB295_285 := Aside0.mk ((by rw [hg]; exact Nat.ne_of_gt (blk_lt (g := gb285) (by (with_reducible repeat (first | refine bN ?_ _|refine bD ?_|refine bA ?_ _)); exact BK285.out)) : gb295 ≠ gb285)); replace BK285 := Aside0.mk (blk_below (g := gb285) (by (with_reducible repeat (first | refine bN ?_ _|refine bD ?_|refine bA ?_ _)); exact BK285.out) hb); clear hb hbox hg; have hnb69 := NB295_285.out; have hnc69 := NB285_295.out; obtain ⟨hcz70_0, hcz70_1, hcz70_2, hcz70_3⟩ := bc4 BK295.out; obtain ⟨hfz70_0, hfz70_1, hfz70_2, hfz70_3⟩ := bf4 BK295.out))
              have n0_ : Aside0 (((((w68.setCell ⟨gb295, 0, none⟩ (.string ((rd_T68 l0_5 x10_3).f0))).setCell ⟨gb295, 1, none⟩ (.string ((rd_T68 l0_5 x10_3).f1))).setCell ⟨gb295, 2, none⟩ (.string ((rd_T68 l0_5 x10_3).f2))).setCell ⟨gb295, 3, none⟩ (.string ((rd_T68 l0_5 x10_3).f3))).heap[gb285]? = some (.cells #[.int .i64 a0_0, .string a0_1, .string a0_2, .string a0_3, .slice A0_4 l0_4.length c0_4, .slice (some ad294) l0_5.length c0_5, .slice A0_6 l0_6.length c0_6, .string a0_7] 28 (0, 0))) := ⟨by (with_reducible repeat (first | refine bN ?_ _|refine bD ?_|refine bA ?_ _)); exact pfa4 (hn := NB285_295.out) (by (with_reducible repeat (first | refine bN ?_ _|refine bD ?_|refine bA ?_ _)); exact BK285.out)⟩
              have n1_ : Aside0 (((((w68.setCell ⟨gb295, 0, none⟩ (.string ((rd_T68 l0_5 x10_3).f0))).setCell ⟨gb295, 1, none⟩ (.string ((rd_T68 l0_5 x10_3).f1))).setCell ⟨gb295, 2, none⟩ (.string ((rd_T68 l0_5 x10_3).f2))).setCell ⟨gb295, 3, none⟩ (.string ((rd_T68 l0_5 x10_3).f3))).heap[gb295]? = some (.cells #[.string ((rd_T68 l0_5 x10_3).f0), .string ((rd_T68 l0_5 x10_3).f1), .string ((rd_T68 l0_5 x10_3).f2), .string ((rd_T68 l0_5 x10_3).f3)] 68 (0, 0))) := ⟨by (with_reducible repeat (first | refine bN ?_ _|refine bD ?_|refine bA ?_ _)); exact put4 (by (with_reducible repeat (first | refine bN ?_ _|refine bD ?_|refine bA ?_ _)); exact BK295.out)⟩
              have n2_ : Aside0 (Below w.heap.size w ((((w68.setCell ⟨gb295, 0, none⟩ (.string ((rd_T68 l0_5 x10_3).f0))).setCell ⟨gb295, 1, none⟩ (.string ((rd_T68 l0_5 x10_3).f1))).setCell ⟨gb295, 2, none⟩ (.string ((rd_T68 l0_5 x10_3).f2))).setCell ⟨gb295, 3, none⟩ (.string ((rd_T68 l0_5 x10_3).f3)))) := ⟨hB⟩
              (try clear BK285)
              (try clear BK295)
              (try clear HB)
              generalize ((((w68.setCell ⟨gb295, 0, none⟩ (.string ((rd_T68 l0_5 x10_3).f0))).setCell ⟨gb295, 1, none⟩ (.string ((rd_T68 l0_5 x10_3).f1))).setCell ⟨gb295, 2, none⟩ (.string ((rd_T68 l0_5 x10_3).f2))).setCell ⟨gb295, 3, none⟩ (.string ((rd_T68 l0_5 x10_3).f3))) = w71 at n0_ n1_ n2_ ⊢
              have BK285 := n0_
              have BK295 := n1_
              have HB := n2_
              clear n0_ n1_ n2_
              replace BK285 := Aside0.mk (blk_drew BK285.out)
              replace BK295 := Aside0.mk (blk_drew BK295.out)
              replace HB := Aside0.mk (below_drew1 HB.out)
              refine start_ (n := 15) (S := fun w' => w'.cell? ⟨gb295, 0, none⟩ = some (.string ((rd_T68 l0_5 x10_3).f0)) ∧ w'.cell? ⟨gb295, 1, none⟩ = some (.string ((rd_T68 l0_5 x10_3).f1)) ∧ w'.cell? ⟨gb295, 2, none⟩ = some (.string ((rd_T68 l0_5 x10_3).f2)) ∧ w'.cell? ⟨gb295, 3, none⟩ = some (.string ((rd_T68 l0_5 x10_3).f3))) (ds := []) #[false, false, false, false, false, false, false, false, false, false, false, false, false, false, false] (by kernel_rfl) rfl rfl ⟨(blk_cell BK295.out 0).trans rfl, (blk_cell BK295.out 1).trans rfl, (blk_cell BK295.out 2).trans rfl, (blk_cell BK295.out 3).trans rfl⟩ (fun hHeld => ?_); refine with_tabW spec_l9Write.tab31 spec_l9Write.bits31 (fun HT_ HW_ => ?_)
              generalize w71.drew = w72 at BK285 BK295 HB hHeld ⊢
              refine pU 0 108 (tf 1 14) ?_
              refine pU 1 109 (tf 2 13) ?_
              refine pU 2 110 (tf 3 12) ?_
              refine pU 4 112 #[true, true, true, false, true, false, false, false, false, false, false, false, false, false, false] ?_
              refine pU 9 117 #[true, true, true, false, true, false, false, false, false, true, false, false, false, false, false] ?_
              refine take_ (i := 3) (N := some 111) (v := ?_) (a' := ?_) #[true, true, true, true, true, false, false, false, false, true, false, false, false, false, false] rfl rfl (take_ofW HT_.out HW_.out (by kernel_rfl)) (fun _ _ _ h => h) (Or.inl ⟨by rfl, ?_⟩) hHeld ?_ ?_
              rotate_left
              ·rintro w' ⟨s0, s1, s2, s3⟩
               go_simp
               with_reducible rfl
              rotate_left
              ·simp only [Act.put, sT, sZ, sS, i64_w, i32_w]
               rfl
              refine take_ (i := 5) (N := some 113) (v := ?_) (a' := ?_) #[true, true, true, true, true, true, false, false, false, true, false, false, false, false, false] rfl rfl (take_ofW HT_.out HW_.out (by kernel_rfl)) (fun _ _ _ h => h) (Or.inl ⟨by rfl, ?_⟩) hHeld ?_ ?_
              rotate_left
              ·rintro w' ⟨s0, s1, s2, s3⟩
               go_simp
               with_reducible rfl
              rotate_left
              ·simp only [Act.put, sT, sZ, sS, i64_w, i32_w]
               rfl
              refine take_ (i := 10) (N := some 118) (v := ?_) (a' := ?_) #[true, true, true, true, true, true, false, false, false, true, true, false, false, false, false] rfl rfl (take_ofW HT_.out HW_.out (by kernel_rfl)) (fun _ _ _ h => h) (Or.inl ⟨by rfl, ?_⟩) hHeld ?_ ?_
              rotate_left
              ·rintro w' ⟨s0, s1, s2, s3⟩
               go_simp
               with_reducible rfl
              rotate_left
              ·simp only [Act.put, sT, sZ, sS, i64_w, i32_w]
               rfl
              refine one_ (i := 6) (N := some 114) #[true, true, true, true, true, true, true, false, false, true, true, false, false, false, false] rfl rfl (one_of HT_.out (by kernel_rfl)) (by decide) (fun K hK => ?_)
              refine goes_ Tryz.func130 (by kernel_rfl) rfl #[.string ((rd_T68 l0_5 x10_3).f0), .string ((rd_T68 l0_5 x10_3).f1)] (by rfl) rfl rfl mA ?_
              with_reducible refine (spec_JoinName.calls k3 ((rd_T68 l0_5 x10_3).f0) ((rd_T68 l0_5 x10_3).f1) t296 _ A61.out).mono ?_
              rintro e w73 ⟨rfl, hb⟩
              refine ⟨_, rfl, ?_⟩
              replace BK285 := Aside0.mk (blk_below (g := gb285) (by (with_reducible repeat (first | refine bN ?_ _|refine bD ?_|refine bA ?_ _)); exact BK285.out) hb)
              replace BK295 := Aside0.mk (blk_below (g := gb295) (by (with_reducible repeat (first | refine bN ?_ _|refine bD ?_|refine bA ?_ _)); exact BK295.out) hb)
              replace HB := Aside0.mk (below_step hB hb)
              (try clear hb)
              (try clear hb2)
              (try clear hk)
              (try clear hi)
              refine hK.out _ _ ⟨(blk_cell BK295.out 0).trans rfl, (blk_cell BK295.out 1).trans rfl, (blk_cell BK295.out 2).trans rfl, (blk_cell BK295.out 3).trans rfl⟩ (fun hHeld => ?_)
              clear hK K
              refine norm_ (a' := ?_) ?_ ?_
              rotate_left
              ·show Act.put _ (some 114) _ = _
               simp only [Act.put, sT, sZ, sS, i64_w, i32_w]
               rfl
              refine pU 7 115 #[true, true, true, true, true, true, true, true, false, true, true, false, false, false, false] ?_
              refine pU 8 116 (tf 11 4) ?_
              refine one_ (i := 11) (N := some 119) (tf 12 3) rfl rfl (one_of HT_.out (by kernel_rfl)) (by decide) (fun K hK => ?_)
              refine goes_ Tryz.func131 (by kernel_rfl) rfl #[.string ((rd_T68 l0_5 x10_3).f3)] (by rfl) rfl rfl mA ?_
              with_reducible refine (spec_EscAttr.calls k3 ((rd_T68 l0_5 x10_3).f3) t297 _ A64.out).mono ?_
              rintro e w' ⟨rfl, ⟨nd, rfl⟩⟩
              refine ⟨_, rfl, ?_⟩
              refine hK.out _ _ ⟨(blk_cell BK295.out 0).trans rfl, (blk_cell BK295.out 1).trans rfl, (blk_cell BK295.out 2).trans rfl, (blk_cell BK295.out 3).trans rfl⟩ (fun hHeld => ?_)
              clear hK K
              refine norm_ (a' := ?_) ?_ ?_
              rotate_left
              ·show Act.put _ (some 119) _ = _
               simp only [Act.put, sT, sZ, sS, i64_w, i32_w]
               rfl
              refine pU 12 120 (tf 13 2) ?_
              refine pU 13 121 (tf 14 1) ?_
              refine pU 14 6 (tf 15 0) ?_
              refine done_ (done_of HT_.out (by kernel_rfl)) ?_
              try go_wp2
              go_roundg k3
              case measure => have := HK1.out; have := HK2.out; have := HK3.out; omega
              case rel => exact ⟨(((((x6_3 ++ (⟨#[32]⟩ : ByteArray)) ++ t296) ++ (⟨#[61, 34]⟩ : ByteArray)) ++ t297) ++ (⟨#[34]⟩ : ByteArray)), (wrap64 (x10_3 + 1)), rG, rG, H', ⟨by have := HK1.out; have := HK2.out; have := HK3.out; omega⟩, ⟨by (with_reducible repeat (first | refine bN ?_ _|refine bD ?_|refine bA ?_ _)); exact BK285.out⟩, ⟨hB⟩⟩
             ·rw [if_neg c58] at H
              have c58b0 : decide (x10_3 < (l0_5.length : Int)) = false := decide_eq_false c58
              clear c58
              by_cases c74 : (l0_6.length : Int) = 0
              ·rw [if_pos c74] at H
               obtain ⟨c74b0, c74b1⟩ := eqT c74
               clear c74
               obtain ⟨c75, H⟩ := if_som H
               obtain ⟨c75b0, c75b1⟩ := fcT c75
               try have c75b2 : (9223372036854775807 < x6_3.size + 2) = False := eq_false (Nat.not_lt.2 c75)
               obtain rfl := Option.some.inj H
               obtain ⟨hcz76_0, hcz76_1, hcz76_2, hcz76_3, hcz76_4, hcz76_5, hcz76_6, hcz76_7⟩ := bc8 BK285.out
               obtain ⟨hfz76_0, hfz76_1, hfz76_2, hfz76_3, hfz76_4, hfz76_5, hfz76_6, hfz76_7⟩ := bf8 BK285.out
               go_wp2
               go_ret
               exact ⟨rE, hB⟩
              ·rw [if_neg c74] at H
               obtain ⟨c74b0, c74b1⟩ := eqF c74
               have c74b2 : ¬ (l0_6 = []) := fun h_ => c74 (by rw [h_]; rfl)
               obtain ⟨c77, H⟩ := if_som H
               obtain ⟨c77b0, c77b1⟩ := fcT c77
               try have c77b2 : (9223372036854775807 < x6_3.size + 1) = False := eq_false (Nat.not_lt.2 c77)
               obtain ⟨c78, H⟩ := if_som H
               obtain ⟨c78b0, c78b1⟩ := fcT c78
               try have c78b2 : (9223372036854775807 < x6_3.size + 1 + x3_1.size) = False := eq_false (by have h_ := c78; simp only [ByteArray.size_append] at h_; exact Nat.not_lt.2 h_)
               obtain ⟨c79, H⟩ := if_som H
               obtain ⟨c79b0, c79b1⟩ := fcT c79
               try have c79b2 : (9223372036854775807 < x6_3.size + 1 + x3_1.size + 2) = False := eq_false (by have h_ := c79; simp only [ByteArray.size_append] at h_; exact Nat.not_lt.2 h_)
               obtain ⟨c80, H⟩ := if_som H
               obtain ⟨c80b0, c80b1⟩ := fcT c80
               try have c80b2 : (9223372036854775807 < x6_3.size + 1 + x3_1.size + 2 + t289.size) = False := eq_false (by have h_ := c80; simp only [ByteArray.size_append] at h_; exact Nat.not_lt.2 h_)
               obtain ⟨c81, H⟩ := if_som H
               obtain ⟨c81b0, c81b1⟩ := fcT c81
               try have c81b2 : (9223372036854775807 < x6_3.size + 1 + x3_1.size + 2 + t289.size + 1) = False := eq_false (by have h_ := c81; simp only [ByteArray.size_append] at h_; exact Nat.not_lt.2 h_)
               obtain rfl := Option.some.inj H
               obtain ⟨hcz82_0, hcz82_1, hcz82_2, hcz82_3, hcz82_4, hcz82_5, hcz82_6, hcz82_7⟩ := bc8 BK285.out
               obtain ⟨hfz82_0, hfz82_1, hfz82_2, hfz82_3, hfz82_4, hfz82_5, hfz82_6, hfz82_7⟩ := bf8 BK285.out
               go_wp2
               go_ret
               exact ⟨rE, hB⟩
/-! ### spec_WriteNode: function 58 -/
def spec_WriteNode.f (k : Nat) (a0_0 : Int) (a0_1 : ByteArray) (a0_2 : ByteArray) (a0_3 : ByteArray) (l0_4 : List (S73)) (l0_5 : List (S68)) (l0_6 : List (S28)) (a0_7 : ByteArray) : Option (ByteArray) := (spec_NodeOk.f k a0_0 a0_1 a0_2 a0_3 l0_4 l0_5 l0_6 a0_7).bind fun t299 => (if t299 = true then ((spec_l9Write.f k a0_0 a0_1 a0_2 a0_3 l0_4 l0_5 l0_6 a0_7).bind fun t300 => (some t300)) else (some (⟨#[]⟩ : ByteArray)))
theorem spec_WriteNode.calls (k : Nat) (a0_0 : Int) (a0_1 : ByteArray) (a0_2 : ByteArray) (a0_3 : ByteArray) (A0_4 : Option Addr) (c0_4 : Nat) (l0_4 : List (S73)) (A0_5 : Option Addr) (c0_5 : Nat) (l0_5 : List (S68)) (A0_6 : Option Addr) (c0_6 : Nat) (l0_6 : List (S28)) (a0_7 : ByteArray) (r : ByteArray) (w : World) (hr0_4 : Kd.C k73 w A0_4 l0_4.length l0_4) (hc0_4 : l0_4.length ≤ c0_4) (hr0_5 : Kd.C k68 w A0_5 l0_5.length l0_5) (hc0_5 : l0_5.length ≤ c0_5) (hr0_6 : Kd.C k28 w A0_6 l0_6.length l0_6) (hc0_6 : l0_6.length ≤ c0_6) (h : spec_WriteNode.f k a0_0 a0_1 a0_2 a0_3 l0_4 l0_5 l0_6 a0_7 = some r) :
  Calls Tryz.prog 58 #[.agg #[.int .i64 a0_0, .string a0_1, .string a0_2, .string a0_3, .slice A0_4 l0_4.length c0_4, .slice A0_5 l0_5.length c0_5, .slice A0_6 l0_6.length c0_6, .string a0_7]] w fun e w' => e = .returned (.string r) ∧ Below w.heap.size w w' := by
 have hu28 := Tryz.underlying28
 have HR0_4 := Aside0.mk hr0_4
 have HC0_4 := Aside0.mk hc0_4
 clear hr0_4 hc0_4
 have HR0_5 := Aside0.mk hr0_5
 have HC0_5 := Aside0.mk hc0_5
 clear hr0_5 hc0_5
 have HR0_6 := Aside0.mk hr0_6
 have HC0_6 := Aside0.mk hc0_6
 clear hr0_6 hc0_6
 have HB := Aside0.mk (Below.refl w.heap.size w)
 have H : ((spec_NodeOk.f k a0_0 a0_1 a0_2 a0_3 l0_4 l0_5 l0_6 a0_7).bind fun t299 => (if t299 = true then ((spec_l9Write.f k a0_0 a0_1 a0_2 a0_3 l0_4 l0_5 l0_6 a0_7).bind fun t300 => (some t300)) else (some (⟨#[]⟩ : ByteArray)))) = some r := h
 clear h
 replace H := Option.bind_eq_some_iff.mp H
 obtain ⟨t299, A20, H⟩ := H
 try dsimp only at H
 have A2 := Aside0.mk A20
 clear A20
 go_enter Tryz.func58, Tryz.ntmps58
 go_wp2_with (first | ((with_reducible refine gate_dst (N := 1) rfl ?_); refine box_event ?hg (N := 1) ?hd (cs := #[.int .i64 a0_0, .string a0_1, .string a0_2, .string a0_3, .slice A0_4 l0_4.length c0_4, .slice A0_5 l0_5.length c0_5, .slice A0_6 l0_6.length c0_6, .string a0_7]) (t := 28) ?hr ?_; (case hd => rfl); (case hg => rfl); (case hr => first | (go_simp; done) | (go_simp; rfl)); intro gb298 hg w3 hbox hb; have BK298 := Aside0.mk (hbox); have GW298 := Aside0.mk ((by rw [hg]; exact (below_size hB) : w.heap.size ≤ gb298)); have GE298 := Aside0.mk ((by rw [hg]; exact (below_size hB) : w.heap.size ≤ gb298)); replace HB := Aside0.mk (below_step hB hb); clear hb hbox hg; obtain ⟨hcz4_0, hcz4_1, hcz4_2, hcz4_3, hcz4_4, hcz4_5, hcz4_6, hcz4_7⟩ := bc8 BK298.out) | ((with_reducible refine gate_callee (f := 17) rfl ?_); refine goesL_ (some 4) rfl rfl Tryz.func17 (by kernel_rfl) rfl #[.agg #[.int .i64 a0_0, .string a0_1, .string a0_2, .string a0_3, .slice A0_4 l0_4.length c0_4, .slice A0_5 l0_5.length c0_5, .slice A0_6 l0_6.length c0_6, .string a0_7]] rfl mA ?_; (with_reducible refine (spec_NodeOk.calls k a0_0 a0_1 a0_2 a0_3 (fun k_ => k_ < w.heap.size) _ _ l0_4 (fun k_ => k_ < w.heap.size) _ _ l0_5 (fun k_ => k_ < w.heap.size) _ _ l0_6 a0_7 t299 _ ?side1 ?side2 ?side3 A2.out).mono ?_); (case side1 => exact Kd.V_mk HC0_4.out (Kd.F_below (Kd.C_F k73_heap HR0_4.out) hB)); (case side2 => exact Kd.V_mk HC0_5.out (Kd.F_below (Kd.C_F k68_heap HR0_5.out) hB)); (case side3 => exact Kd.V_mk HC0_6.out (Kd.F_below (Kd.C_F k28_heap HR0_6.out) hB)); rintro e w5 ⟨rfl, hb⟩; refine ⟨_, rfl, ?_⟩; replace BK298 := Aside0.mk (blk_below (g := gb298) (by (with_reducible repeat (first | refine bN ?_ _|refine bD ?_|refine bA ?_ _)); exact BK298.out) hb); replace HB := Aside0.mk (below_step hB hb); (try clear hb); (try clear hb2); (try clear hk); (try clear hi); refine halt_ ?_; intro q_ hq_))
 obtain ⟨rfl⟩ := hq_
 by_cases c6 : t299 = true
 ·subst c6
  rw [if_pos rfl] at H
  replace H := Option.bind_eq_some_iff.mp H
  obtain ⟨t300, A70, H⟩ := H
  try dsimp only at H
  have A7 := Aside0.mk A70
  clear A70
  obtain rfl := Option.some.inj H
  obtain ⟨hcz8_0, hcz8_1, hcz8_2, hcz8_3, hcz8_4, hcz8_5, hcz8_6, hcz8_7⟩ := bc8 BK298.out
  go_wp2_with (first | ((with_reducible refine gate_callee (f := 93) rfl ?_); refine goesL_ (some 7) rfl rfl Tryz.func93 (by kernel_rfl) rfl #[.agg #[.int .i64 a0_0, .string a0_1, .string a0_2, .string a0_3, .slice A0_4 l0_4.length c0_4, .slice A0_5 l0_5.length c0_5, .slice A0_6 l0_6.length c0_6, .string a0_7]] rfl mA ?_; (with_reducible refine (spec_l9Write.calls k a0_0 a0_1 a0_2 a0_3 _ _ l0_4 _ _ l0_5 _ _ l0_6 a0_7 t300 _ ?side1 ?side2 ?side3 ?side4 ?side5 ?side6 A7.out).mono ?_); (case side1 => repeat (first | exact (Kd.C_below HR0_4.out HB.out) | (with_reducible refine Kd.C_alloc ?_ _) | (with_reducible refine Kd.C_drewN ?_ _) | (with_reducible refine Kd.C_drew ?_))); (case side2 => exact HC0_4.out); (case side3 => repeat (first | exact (Kd.C_below HR0_5.out HB.out) | (with_reducible refine Kd.C_alloc ?_ _) | (with_reducible refine Kd.C_drewN ?_ _) | (with_reducible refine Kd.C_drew ?_))); (case side4 => exact HC0_5.out); (case side5 => repeat (first | exact (Kd.C_below HR0_6.out HB.out) | (with_reducible refine Kd.C_alloc ?_ _) | (with_reducible refine Kd.C_drewN ?_ _) | (with_reducible refine Kd.C_drew ?_))); (case side6 => exact HC0_6.out); rintro e w9 ⟨rfl, hb⟩; refine ⟨_, rfl, ?_⟩; replace BK298 := Aside0.mk (blk_below (g := gb298) (by (with_reducible repeat (first | refine bN ?_ _|refine bD ?_|refine bA ?_ _)); exact BK298.out) hb); replace HB := Aside0.mk (below_step hB hb); (try clear hb); (try clear hb2); (try clear hk); (try clear hi)))
  go_ret
  exact ⟨rE, hB⟩
 ·replace c6 := Bool.eq_false_iff.mpr c6
  subst c6
  rw [if_neg (show ¬ (false = true) by decide)] at H
  obtain rfl := Option.some.inj H
  go_wp2
  go_ret
  exact ⟨rE, hB⟩

/-! ### spec_HashOf: function 29 -/
def spec_HashOf.l0 : Nat → ByteArray → Int → Int → Option (Int)
 | 0, _, _, _ => none
 | k + 1, x3, x4, x5 => if x5 < (x3.size : Int) then (if 0 ≤ x5 then (spec_HashOf.l0 k x3 (Go.bits .and .i64 (wrap64 ((Go.bits .xor .i64 x4 (wrap64 (bt x3 x5))) * 16777619)) 4294967295) (wrap64 (x5 + 1))) else (none)) else (some x4)
def spec_HashOf.f (k : Nat) (a0_0 : Int) (a0_1 : ByteArray) (a0_2 : ByteArray) (a0_3 : ByteArray) (l0_4 : List (S73)) (l0_5 : List (S68)) (l0_6 : List (S28)) (a0_7 : ByteArray) : Option (Int) := (spec_WriteNode.f k a0_0 a0_1 a0_2 a0_3 l0_4 l0_5 l0_6 a0_7).bind fun t302 => (spec_HashOf.l0 k t302 2166136261 0)
theorem spec_HashOf.calls (k : Nat) (a0_0 : Int) (a0_1 : ByteArray) (a0_2 : ByteArray) (a0_3 : ByteArray) (A0_4 : Option Addr) (c0_4 : Nat) (l0_4 : List (S73)) (A0_5 : Option Addr) (c0_5 : Nat) (l0_5 : List (S68)) (A0_6 : Option Addr) (c0_6 : Nat) (l0_6 : List (S28)) (a0_7 : ByteArray) (r : Int) (w : World) (hr0_4 : Kd.C k73 w A0_4 l0_4.length l0_4) (hc0_4 : l0_4.length ≤ c0_4) (hr0_5 : Kd.C k68 w A0_5 l0_5.length l0_5) (hc0_5 : l0_5.length ≤ c0_5) (hr0_6 : Kd.C k28 w A0_6 l0_6.length l0_6) (hc0_6 : l0_6.length ≤ c0_6) (h : spec_HashOf.f k a0_0 a0_1 a0_2 a0_3 l0_4 l0_5 l0_6 a0_7 = some r) :
  Calls Tryz.prog 29 #[.agg #[.int .i64 a0_0, .string a0_1, .string a0_2, .string a0_3, .slice A0_4 l0_4.length c0_4, .slice A0_5 l0_5.length c0_5, .slice A0_6 l0_6.length c0_6, .string a0_7]] w fun e w' => e = .returned (.int .i64 r) ∧ Below w.heap.size w w' := by
 have hu28 := Tryz.underlying28
 have HR0_4 := Aside0.mk hr0_4
 have HC0_4 := Aside0.mk hc0_4
 clear hr0_4 hc0_4
 have HR0_5 := Aside0.mk hr0_5
 have HC0_5 := Aside0.mk hc0_5
 clear hr0_5 hc0_5
 have HR0_6 := Aside0.mk hr0_6
 have HC0_6 := Aside0.mk hc0_6
 clear hr0_6 hc0_6
 have HB := Aside0.mk (Below.refl w.heap.size w)
 have H : ((spec_WriteNode.f k a0_0 a0_1 a0_2 a0_3 l0_4 l0_5 l0_6 a0_7).bind fun t302 => (spec_HashOf.l0 k t302 2166136261 0)) = some r := h
 clear h
 replace H := Option.bind_eq_some_iff.mp H
 obtain ⟨t302, A20, H⟩ := H
 try dsimp only at H
 have A2 := Aside0.mk A20
 clear A20
 have H' := Aside0.mk H
 clear H
 go_enter Tryz.func29, Tryz.ntmps29
 go_wp2_with (first | ((with_reducible refine gate_dst (N := 1) rfl ?_); refine box_event ?hg (N := 1) ?hd (cs := #[.int .i64 a0_0, .string a0_1, .string a0_2, .string a0_3, .slice A0_4 l0_4.length c0_4, .slice A0_5 l0_5.length c0_5, .slice A0_6 l0_6.length c0_6, .string a0_7]) (t := 28) ?hr ?_; (case hd => rfl); (case hg => rfl); (case hr => first | (go_simp; done) | (go_simp; rfl)); intro gb301 hg w3 hbox hb; have BK301 := Aside0.mk (hbox); have GW301 := Aside0.mk ((by rw [hg]; exact (below_size hB) : w.heap.size ≤ gb301)); have GE301 := Aside0.mk ((by rw [hg]; exact (below_size hB) : w.heap.size ≤ gb301)); replace HB := Aside0.mk (below_step hB hb); clear hb hbox hg; obtain ⟨hcz4_0, hcz4_1, hcz4_2, hcz4_3, hcz4_4, hcz4_5, hcz4_6, hcz4_7⟩ := bc8 BK301.out) | ((with_reducible refine gate_callee (f := 58) rfl ?_); refine goesL_ (some 7) rfl rfl Tryz.func58 (by kernel_rfl) rfl #[.agg #[.int .i64 a0_0, .string a0_1, .string a0_2, .string a0_3, .slice A0_4 l0_4.length c0_4, .slice A0_5 l0_5.length c0_5, .slice A0_6 l0_6.length c0_6, .string a0_7]] rfl mA ?_; (with_reducible refine (spec_WriteNode.calls k a0_0 a0_1 a0_2 a0_3 _ _ l0_4 _ _ l0_5 _ _ l0_6 a0_7 t302 _ ?side1 ?side2 ?side3 ?side4 ?side5 ?side6 A2.out).mono ?_); (case side1 => repeat (first | exact (Kd.C_below HR0_4.out HB.out) | (with_reducible refine Kd.C_alloc ?_ _) | (with_reducible refine Kd.C_drewN ?_ _) | (with_reducible refine Kd.C_drew ?_))); (case side2 => exact HC0_4.out); (case side3 => repeat (first | exact (Kd.C_below HR0_5.out HB.out) | (with_reducible refine Kd.C_alloc ?_ _) | (with_reducible refine Kd.C_drewN ?_ _) | (with_reducible refine Kd.C_drew ?_))); (case side4 => exact HC0_5.out); (case side5 => repeat (first | exact (Kd.C_below HR0_6.out HB.out) | (with_reducible refine Kd.C_alloc ?_ _) | (with_reducible refine Kd.C_drewN ?_ _) | (with_reducible refine Kd.C_drew ?_))); (case side6 => exact HC0_6.out); rintro e w5 ⟨rfl, hb⟩; refine ⟨_, rfl, ?_⟩; replace BK301 := Aside0.mk (blk_below (g := gb301) (by (with_reducible repeat (first | refine bN ?_ _|refine bD ?_|refine bA ?_ _)); exact BK301.out) hb); replace HB := Aside0.mk (below_step hB hb); (try clear hb); (try clear hb2); (try clear hk); (try clear hi)))
 go_loopg [4, 5] k (fun kq v4 v5 w' => ∃ (x4_1 : Int) (x5_1 : Int), v4 = .int .i64 x4_1 ∧ v5 = .int .i64 x5_1 ∧ Aside0 (spec_HashOf.l0 kq t302 x4_1 x5_1 = some r) ∧ Aside0 (kq ≤ k) ∧ Aside0 (w'.heap[gb301]? = some (.cells #[.int .i64 a0_0, .string a0_1, .string a0_2, .string a0_3, (.slice A0_4 l0_4.length c0_4), (.slice A0_5 l0_5.length c0_5), (.slice A0_6 l0_6.length c0_6), .string a0_7] 28 (0, 0))) ∧ Aside0 (Below w.heap.size w w'))
 case atStart => exact ⟨(2166136261), (0), rG, rG, H', ⟨Nat.le_refl _⟩, ⟨by (with_reducible repeat (first | refine bN ?_ _|refine bD ?_|refine bA ?_ _)); exact BK301.out⟩, ⟨hB⟩⟩
 case round =>
  clear H'
  try clear hcz4_0 hcz4_1 hcz4_2 hcz4_3 hcz4_4 hcz4_5 hcz4_6 hcz4_7
  obtain ⟨x4_1, x5_1, rfl, rfl, HA, HK1, BK301, HB⟩ := hrel
  cases gk with
  | zero => exact absurd HA.out (by simp [spec_HashOf.l0])
  | succ k1 =>
   have H := HA.out
   clear HA
   simp only [spec_HashOf.l0] at H
   by_cases c6 : x5_1 < (t302.size : Int)
   ·rw [if_pos c6] at H
    have c6b0 : decide (x5_1 < (t302.size : Int)) = true := decide_eq_true c6
    clear c6
    obtain ⟨c7, H⟩ := if_som H
    have c7b0 : decide (0 ≤ x5_1) = true := decide_eq_true c7
    clear c7
    have H' := Aside0.mk H
    clear H
    have p8 : 0 ≤ (x5_1 : Int) := odt
    have q8 : x5_1 < (t302.size : Int) := odt
    have hx8 := bt_at t302 x5_1
    replace p8 := eq_true p8
    replace q8 := eq_true q8
    go_wp2
    go_roundg k1
    case measure => have := HK1.out; omega
    case rel => exact ⟨(Go.bits .and .i64 (wrap64 ((Go.bits .xor .i64 x4_1 (wrap64 (bt t302 x5_1))) * 16777619)) 4294967295), (wrap64 (x5_1 + 1)), rG, rG, H', ⟨by have := HK1.out; omega⟩, ⟨by (with_reducible repeat (first | refine bN ?_ _|refine bD ?_|refine bA ?_ _)); exact BK301.out⟩, ⟨hB⟩⟩
   ·rw [if_neg c6] at H
    have c6b0 : decide (x5_1 < (t302.size : Int)) = false := decide_eq_false c6
    clear c6
    obtain rfl := Option.some.inj H
    go_wp2
    go_ret
    exact ⟨rE, hB⟩

end Go.Proofs.YtalionlkjdgciaaGreatDoor.PA
