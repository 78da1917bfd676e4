-- Written by the session's program hprint.py, over the kit's print program. Lean checks it.
import Derived.Test.YtalionlkjdgciaaGreatDoorPAx0
import Derived.Test.YtalionlkjdgciaaGreatDoorPAx17
namespace Go.Proofs.YtalionlkjdgciaaGreatDoor.PA
open Go.RowKit Go.Proofs.YtalionlkjdgciaaGreatDoorW.PrintWords Go.Proofs.YtalionlkjdgciaaGreatDoorW.PrintLast Go.Proofs.YtalionlkjdgciaaGreatDoorW.PrintMore
attribute [local go_sem] max2_int min2_int max_two min_two max_three min_three max_four min_four   -- for this text's walks alone
set_option linter.unusedVariables false
set_option linter.unusedSimpArgs false
set_option maxHeartbeats 8000000
set_option maxRecDepth 100000

/-! ### impl_written: function 94 -/
mutual
def impl_written.l0 : Nat → ByteArray → List (S28) → Int → Int → Int → ByteArray → ByteArray → ByteArray → List (S73) → List (S68) → List (S28) → ByteArray → Option (ByteArray)
 | 0, _, _, _, _, _, _, _, _, _, _, _, _ => none
 | k + 1, x3, x13, x14, x15, x396000, x396001, x396002, x396003, x396004, x396005, x396006, x396007 => if x15 < x14 then (if 0 ≤ x15 then (if x15 < (x13.length : Int) then ((impl_written.f k ((rd_T28 x13 x15).f0) ((rd_T28 x13 x15).f1) ((rd_T28 x13 x15).f2) ((rd_T28 x13 x15).f3) ((rd_T28 x13 x15).f4) ((rd_T28 x13 x15).f5) ((rd_T28 x13 x15).f6) ((rd_T28 x13 x15).f7)).bind fun t398 => (if x3.size + t398.size ≤ 9223372036854775807 then (impl_written.l0 k (x3 ++ t398) x13 x14 (wrap64 (x15 + 1)) x396000 x396001 x396002 x396003 x396004 x396005 x396006 x396007) else (none))) else (none)) else (none)) else (if x396000 = 0 then (some x3) else (if x396000 = 2 then ((impl_EscText.f x396007).bind fun t399 => (some t399)) else (if x396000 = 3 then (if 4 + x396007.size ≤ 9223372036854775807 then (if ((⟨#[60, 33, 45, 45]⟩ : ByteArray) ++ x396007).size + 3 ≤ 9223372036854775807 then (some (((⟨#[60, 33, 45, 45]⟩ : ByteArray) ++ x396007) ++ (⟨#[45, 45, 62]⟩ : ByteArray))) else (none)) else (none)) else (if x396000 = 4 then (if x396007.toList = ([] : List UInt8) then (if 2 + x396002.size ≤ 9223372036854775807 then (if ((⟨#[60, 63]⟩ : ByteArray) ++ x396002).size + 2 ≤ 9223372036854775807 then (some (((⟨#[60, 63]⟩ : ByteArray) ++ x396002) ++ (⟨#[63, 62]⟩ : ByteArray))) else (none)) else (none)) else (if 2 + x396002.size ≤ 9223372036854775807 then (if ((⟨#[60, 63]⟩ : ByteArray) ++ x396002).size + 1 ≤ 9223372036854775807 then (if (((⟨#[60, 63]⟩ : ByteArray) ++ x396002) ++ (⟨#[32]⟩ : ByteArray)).size + x396007.size ≤ 9223372036854775807 then (if ((((⟨#[60, 63]⟩ : ByteArray) ++ x396002) ++ (⟨#[32]⟩ : ByteArray)) ++ x396007).size + 2 ≤ 9223372036854775807 then (some (((((⟨#[60, 63]⟩ : ByteArray) ++ x396002) ++ (⟨#[32]⟩ : ByteArray)) ++ x396007) ++ (⟨#[63, 62]⟩ : ByteArray))) else (none)) else (none)) else (none)) else (none))) else ((impl_JoinName.f k x396001 x396002).bind fun t400 => (if 1 + t400.size ≤ 9223372036854775807 then (impl_written.l1 k x3 t400 ((⟨#[60]⟩ : ByteArray) ++ t400) x396004 (x396004.length : Int) 0 x396000 x396001 x396002 x396003 x396004 x396005 x396006 x396007) else (none)))))))
def impl_written.l1 : Nat → ByteArray → ByteArray → ByteArray → List (S73) → Int → Int → Int → ByteArray → ByteArray → ByteArray → List (S73) → List (S68) → List (S28) → ByteArray → Option (ByteArray)
 | 0, _, _, _, _, _, _, _, _, _, _, _, _, _, _ => none
 | k + 1, x3, x6, x7, x65, x66, x67, x396000, x396001, x396002, x396003, x396004, x396005, x396006, x396007 => if x67 < x66 then (if 0 ≤ x67 then (if x67 < (x65.length : Int) then ((impl_declText.f ((rd_T73 x65 x67).f0) ((rd_T73 x65 x67).f1)).bind fun t403 => (if x7.size + t403.size ≤ 9223372036854775807 then (impl_written.l1 k x3 x6 (x7 ++ t403) x65 x66 (wrap64 (x67 + 1)) x396000 x396001 x396002 x396003 x396004 x396005 x396006 x396007) else (none))) else (none)) else (none)) else (impl_written.l2 k x3 x6 x7 x396005 (x396005.length : Int) 0 x396000 x396001 x396002 x396003 x396004 x396005 x396006 x396007)
def impl_written.l2 : Nat → ByteArray → ByteArray → ByteArray → List (S68) → Int → Int → Int → ByteArray → ByteArray → ByteArray → List (S73) → List (S68) → List (S28) → ByteArray → Option (ByteArray)
 | 0, _, _, _, _, _, _, _, _, _, _, _, _, _, _ => none
 | k + 1, x3, x6, x7, x77, x78, x79, x396000, x396001, x396002, x396003, x396004, x396005, x396006, x396007 => if x79 < x78 then (if 0 ≤ x79 then (if x79 < (x77.length : Int) then ((impl_JoinName.f k ((rd_T68 x77 x79).f0) ((rd_T68 x77 x79).f1)).bind fun t406 => (if 1 + t406.size ≤ 9223372036854775807 then (if ((⟨#[32]⟩ : ByteArray) ++ t406).size + 2 ≤ 9223372036854775807 then ((impl_EscAttr.f ((rd_T68 x77 x79).f3)).bind fun t407 => (if (((⟨#[32]⟩ : ByteArray) ++ t406) ++ (⟨#[61, 34]⟩ : ByteArray)).size + t407.size ≤ 9223372036854775807 then (if ((((⟨#[32]⟩ : ByteArray) ++ t406) ++ (⟨#[61, 34]⟩ : ByteArray)) ++ t407).size + 1 ≤ 9223372036854775807 then (if x7.size + (((((⟨#[32]⟩ : ByteArray) ++ t406) ++ (⟨#[61, 34]⟩ : ByteArray)) ++ t407) ++ (⟨#[34]⟩ : ByteArray)).size ≤ 9223372036854775807 then (impl_written.l2 k x3 x6 (x7 ++ (((((⟨#[32]⟩ : ByteArray) ++ t406) ++ (⟨#[61, 34]⟩ : ByteArray)) ++ t407) ++ (⟨#[34]⟩ : ByteArray))) x77 x78 (wrap64 (x79 + 1)) x396000 x396001 x396002 x396003 x396004 x396005 x396006 x396007) else (none)) else (none)) else (none))) else (none)) else (none))) else (none)) else (none)) else (if (x396006.length : Int) = 0 then (if x7.size + 2 ≤ 9223372036854775807 then (some (x7 ++ (⟨#[47, 62]⟩ : ByteArray))) else (none)) else (if x7.size + 1 ≤ 9223372036854775807 then (if (x7 ++ (⟨#[62]⟩ : ByteArray)).size + x3.size ≤ 9223372036854775807 then (if ((x7 ++ (⟨#[62]⟩ : ByteArray)) ++ x3).size + 2 ≤ 9223372036854775807 then (if (((x7 ++ (⟨#[62]⟩ : ByteArray)) ++ x3) ++ (⟨#[60, 47]⟩ : ByteArray)).size + x6.size ≤ 9223372036854775807 then (if ((((x7 ++ (⟨#[62]⟩ : ByteArray)) ++ x3) ++ (⟨#[60, 47]⟩ : ByteArray)) ++ x6).size + 1 ≤ 9223372036854775807 then (some (((((x7 ++ (⟨#[62]⟩ : ByteArray)) ++ x3) ++ (⟨#[60, 47]⟩ : ByteArray)) ++ x6) ++ (⟨#[62]⟩ : ByteArray))) else (none)) else (none)) else (none)) else (none)) else (none)))
def impl_written.f : Nat → Int → ByteArray → ByteArray → ByteArray → List (S73) → List (S68) → List (S28) → ByteArray → Option (ByteArray)
 | 0, _, _, _, _, _, _, _, _ => none
 | k + 1, a0_0, a0_1, a0_2, a0_3, l0_4, l0_5, l0_6, a0_7 => impl_written.l0 k (⟨#[]⟩ : ByteArray) l0_6 (l0_6.length : Int) 0 a0_0 a0_1 a0_2 a0_3 l0_4 l0_5 l0_6 a0_7
end
def impl_written.T28 : Bool × List (List Nat × List Nat) := (true, [([], []), ([], []), ([1], [1]), ([], []), ([3], [3]), ([2, 4], [2, 4]), ([5], [5]), ([6], [6]), ([], []), ([8], [8]), ([9, 5], [9]), ([7, 10], [7, 10]), ([11], [11]), ([0, 12], [0, 12]), ([13, 10, 0, 1, 2, 3, 4, 5, 6, 7, 8, 9, 10, 11, 12, 13], [0, 13])])
def impl_written.B28 : List Nat := [0, 0, 2, 0, 8, 30, 62, 126, 0, 256, 830, 2046, 4094, 8191, 16383]
theorem impl_written.tab28 : rtab .any (opsOf Tryz.f94 28) = impl_written.T28 := by kernel_rfl
theorem impl_written.bits28 : waitsOk impl_written.T28.2 impl_written.B28 = true := by kernel_rfl
theorem impl_written.calls (k : Nat) : ∀ (a0_0 : Int) (a0_1 : ByteArray) (a0_2 : ByteArray) (a0_3 : ByteArray) (A0_4 : Option Addr) (c0_4 : Nat) (l0_4 : List (S73)) (A0_5 : Option Addr) (c0_5 : Nat) (l0_5 : List (S68)) (A0_6 : Option Addr) (c0_6 : Nat) (l0_6 : List (S28)) (a0_7 : ByteArray) (r : ByteArray) (w : World) (hr0_4 : Kd.C k73 w A0_4 l0_4.length l0_4) (hc0_4 : l0_4.length ≤ c0_4) (hr0_5 : Kd.C k68 w A0_5 l0_5.length l0_5) (hc0_5 : l0_5.length ≤ c0_5) (hr0_6 : Kd.C k28 w A0_6 l0_6.length l0_6) (hc0_6 : l0_6.length ≤ c0_6) (hTab : Tabs w) (h : impl_written.f k a0_0 a0_1 a0_2 a0_3 l0_4 l0_5 l0_6 a0_7 = some r),
  Calls Tryz.prog 94 #[.agg #[.int .i64 a0_0, .string a0_1, .string a0_2, .string a0_3, .slice A0_4 l0_4.length c0_4, .slice A0_5 l0_5.length c0_5, .slice A0_6 l0_6.length c0_6, .string a0_7]] w fun e w' => e = .returned (.string r) ∧ Below w.heap.size w w' := by
 induction k using Nat.strongRecOn with
 | _ k ih =>
 intro a0_0 a0_1 a0_2 a0_3 A0_4 c0_4 l0_4 A0_5 c0_5 l0_5 A0_6 c0_6 l0_6 a0_7 r w hr0_4 hc0_4 hr0_5 hc0_5 hr0_6 hc0_6 hTab h
 cases k with
 | zero => exact absurd h (by simp [impl_written.f])
 | succ k =>
 simp only [impl_written.f] at h
 have HT := Aside0.mk hTab
 clear hTab
 have hu28 := Tryz.underlying28
 have hu73 := Tryz.underlying73
 have hu68 := Tryz.underlying68
 have HR0_4 := Aside0.mk hr0_4
 have HC0_4 := Aside0.mk hc0_4
 clear hr0_4 hc0_4
 have HR0_5 := Aside0.mk hr0_5
 have HC0_5 := Aside0.mk hc0_5
 clear hr0_5 hc0_5
 have HR0_6 := Aside0.mk hr0_6
 have HC0_6 := Aside0.mk hc0_6
 clear hr0_6 hc0_6
 have HB := Aside0.mk (Below.refl w.heap.size w)
 have H : (impl_written.l0 k (⟨#[]⟩ : ByteArray) l0_6 (l0_6.length : Int) 0 a0_0 a0_1 a0_2 a0_3 l0_4 l0_5 l0_6 a0_7) = some r := h
 clear h
 have H' := Aside0.mk H
 clear H
 go_enter Tryz.func94, Tryz.ntmps94
 go_wp2_with (first | ((with_reducible refine gate_dst (N := 1) rfl ?_); refine box_event ?hg (N := 1) ?hd (cs := #[.int .i64 a0_0, .string a0_1, .string a0_2, .string a0_3, .slice A0_4 l0_4.length c0_4, .slice A0_5 l0_5.length c0_5, .slice A0_6 l0_6.length c0_6, .string a0_7]) (t := 28) ?hr ?_; (case hd => rfl); (case hg => rfl); (case hr => first | (go_simp; done) | (go_simp; rfl)); intro gb395 hg w2 hbox hb; have BK395 := Aside0.mk (hbox); have GW395 := Aside0.mk ((by rw [hg]; exact (below_size hB) : w.heap.size ≤ gb395)); have GE395 := Aside0.mk ((by rw [hg]; exact (below_size hB) : w.heap.size ≤ gb395)); replace HB := Aside0.mk (below_step hB hb); clear hb hbox hg; obtain ⟨hcz3_0, hcz3_1, hcz3_2, hcz3_3, hcz3_4, hcz3_5, hcz3_6, hcz3_7⟩ := bc8 BK395.out; obtain ⟨hfz3_0, hfz3_1, hfz3_2, hfz3_3, hfz3_4, hfz3_5, hfz3_6, hfz3_7⟩ := bf8 BK395.out))
 go_loopg [3, 15] k (fun kq v3 v15 w' => ∃ (x3_1 : ByteArray) (x15_1 : Int), v3 = .string x3_1 ∧ v15 = .int .i64 x15_1 ∧ Aside0 (impl_written.l0 kq x3_1 l0_6 (l0_6.length : Int) x15_1 a0_0 a0_1 a0_2 a0_3 l0_4 l0_5 l0_6 a0_7 = some r) ∧ Aside0 (kq ≤ k) ∧ Aside0 (w'.heap[gb395]? = some (.cells #[.int .i64 a0_0, .string a0_1, .string a0_2, .string a0_3, (.slice A0_4 l0_4.length c0_4), (.slice A0_5 l0_5.length c0_5), (.slice A0_6 l0_6.length c0_6), .string a0_7] 28 (0, 0))) ∧ Aside0 (Below w.heap.size w w'))
 case atStart => exact ⟨((⟨#[]⟩ : ByteArray)), (0), rG, rG, H', ⟨Nat.le_refl _⟩, ⟨by (with_reducible repeat (first | refine bN ?_ _|refine bD ?_|refine bA ?_ _)); exact BK395.out⟩, ⟨hB⟩⟩
 case round =>
  clear H'
  try clear hcz3_0 hcz3_1 hcz3_2 hcz3_3 hcz3_4 hcz3_5 hcz3_6 hcz3_7
  try clear hfz3_0 hfz3_1 hfz3_2 hfz3_3 hfz3_4 hfz3_5 hfz3_6 hfz3_7
  obtain ⟨x3_1, x15_1, rfl, rfl, HA, HK1, BK395, HB⟩ := hrel
  cases gk with
  | zero => exact absurd HA.out (by simp [impl_written.l0])
  | succ k1 =>
   have H := HA.out
   clear HA
   simp only [impl_written.l0] at H
   by_cases c4 : x15_1 < (l0_6.length : Int)
   ·rw [if_pos c4] at H
    have c4b0 : decide (x15_1 < (l0_6.length : Int)) = true := decide_eq_true c4
    clear c4
    obtain ⟨c5, H⟩ := if_som H
    have c5b0 : decide (0 ≤ x15_1) = true := decide_eq_true c5
    clear c5
    obtain ⟨c6, H⟩ := if_som H
    have c6b0 : decide (x15_1 < (l0_6.length : Int)) = true := decide_eq_true c6
    clear c6
    replace H := Option.bind_eq_some_iff.mp H
    obtain ⟨t398, A70, H⟩ := H
    try dsimp only at H
    have A7 := Aside0.mk A70
    clear A70
    obtain ⟨c8, H⟩ := if_som H
    obtain ⟨c8b0, c8b1⟩ := fcT c8
    try have c8b2 : (9223372036854775807 < x3_1.size + t398.size) = False := eq_false (Nat.not_lt.2 c8)
    have H' := Aside0.mk H
    clear H
    have p396 : 0 ≤ (x15_1 : Int) := odt
    have q396 : x15_1 < (l0_6.length : Int) := odt
    obtain ⟨ad396, A396_4, c396_4, A396_5, c396_5, A396_6, c396_6, e396, hx396_0, hx396_1, hx396_2, hx396_3, hx396_4, hx396_5, hx396_6, hx396_7, hl396_4, hi396_4, hl396_5, hi396_5, hl396_6, hi396_6⟩ := at_T28 HR0_6.out x15_1 p396 q396
    cases e396
    replace hx396_0 := pw_cell_below HB.out hx396_0
    replace hx396_1 := pw_cell_below HB.out hx396_1
    replace hx396_2 := pw_cell_below HB.out hx396_2
    replace hx396_3 := pw_cell_below HB.out hx396_3
    replace hx396_4 := pw_cell_below HB.out hx396_4
    replace hx396_5 := pw_cell_below HB.out hx396_5
    replace hx396_6 := pw_cell_below HB.out hx396_6
    replace hx396_7 := pw_cell_below HB.out hx396_7
    have HR396_4 := Aside0.mk hi396_4
    have HC396_4 := Aside0.mk hl396_4
    clear hi396_4 hl396_4
    have HR396_5 := Aside0.mk hi396_5
    have HC396_5 := Aside0.mk hl396_5
    clear hi396_5 hl396_5
    have HR396_6 := Aside0.mk hi396_6
    have HC396_6 := Aside0.mk hl396_6
    clear hi396_6 hl396_6
    replace p396 := eq_true p396
    replace q396 := eq_true q396
    go_wp2_with (first | ((with_reducible refine gate_dst (N := 5) rfl ?_); refine box_event ?hg (N := 5) ?hd (cs := #[.int .i64 0, .string (⟨#[]⟩ : ByteArray), .string (⟨#[]⟩ : ByteArray), .string (⟨#[]⟩ : ByteArray), .slice none 0 0, .slice none 0 0, .slice none 0 0, .string (⟨#[]⟩ : ByteArray)]) (t := 28) ?hr ?_; (case hd => rfl); (case hg => rfl); (case hr => first | (go_simp; done) | (go_simp; rfl)); intro gb397 hg w9 hbox hb; have BK397 := Aside0.mk (hbox); have GW397 := Aside0.mk ((by rw [hg]; exact (below_size hB) : w.heap.size ≤ gb397)); have GE397 := Aside0.mk ((by rw [hg]; exact (below_size hB) : w.heap.size ≤ gb397)); replace HB := Aside0.mk (below_step hB hb); have NB395_397 := Aside0.mk ((by rw [hg]; exact Nat.ne_of_lt (blk_lt (g := gb395) (by (with_reducible repeat (first | refine bN ?_ _|refine bD ?_|refine bA ?_ _)); exact BK395.out)) : gb395 ≠ gb397)); have NB397_395 := Aside0.mk ((by rw [hg]; exact Nat.ne_of_gt (blk_lt (g := gb395) (by (with_reducible repeat (first | refine bN ?_ _|refine bD ?_|refine bA ?_ _)); exact BK395.out)) : gb397 ≠ gb395)); replace BK395 := Aside0.mk (blk_below (g := gb395) (by (with_reducible repeat (first | refine bN ?_ _|refine bD ?_|refine bA ?_ _)); exact BK395.out) hb); clear hb hbox hg; have hnb10 := NB397_395.out; have hnc10 := NB395_397.out; obtain ⟨hcz11_0, hcz11_1, hcz11_2, hcz11_3, hcz11_4, hcz11_5, hcz11_6, hcz11_7⟩ := bc8 BK397.out; obtain ⟨hfz11_0, hfz11_1, hfz11_2, hfz11_3, hfz11_4, hfz11_5, hfz11_6, hfz11_7⟩ := bf8 BK397.out) | ((with_reducible refine gate_callee (f := 94) rfl ?_); refine goesL_ (some 21) rfl rfl Tryz.func94 (by kernel_rfl) rfl #[.agg #[.int .i64 ((rd_T28 l0_6 x15_1).f0), .string ((rd_T28 l0_6 x15_1).f1), .string ((rd_T28 l0_6 x15_1).f2), .string ((rd_T28 l0_6 x15_1).f3), .slice A396_4 ((rd_T28 l0_6 x15_1).f4).length c396_4, .slice A396_5 ((rd_T28 l0_6 x15_1).f5).length c396_5, .slice A396_6 ((rd_T28 l0_6 x15_1).f6).length c396_6, .string ((rd_T28 l0_6 x15_1).f7)]] rfl mA ?_; (with_reducible refine (ih k1 (by have := HK1.out; omega) ((rd_T28 l0_6 x15_1).f0) ((rd_T28 l0_6 x15_1).f1) ((rd_T28 l0_6 x15_1).f2) ((rd_T28 l0_6 x15_1).f3) _ _ ((rd_T28 l0_6 x15_1).f4) _ _ ((rd_T28 l0_6 x15_1).f5) _ _ ((rd_T28 l0_6 x15_1).f6) ((rd_T28 l0_6 x15_1).f7) t398 _ ?side1 ?side2 ?side3 ?side4 ?side5 ?side6 ?tabs A7.out).mono ?_); (case tabs => first | exact Tabs.below HT.out hB | (repeat (first | exact HT.out | (with_reducible refine Tabs.drewN ?_ _) | (with_reducible refine Tabs.drew ?_) | (with_reducible refine Tabs.alloc ?_ _)))); (case side1 => exact Kd.C_below HR396_4.out hB); (case side2 => exact HC396_4.out); (case side3 => exact Kd.C_below HR396_5.out hB); (case side4 => exact HC396_5.out); (case side5 => exact Kd.C_below HR396_6.out hB); (case side6 => exact HC396_6.out); rintro e w12 ⟨rfl, hb⟩; refine ⟨_, rfl, ?_⟩; replace BK395 := Aside0.mk (blk_below (g := gb395) (by (with_reducible repeat (first | refine bN ?_ _|refine bD ?_|refine bA ?_ _)); exact pfa8 (hn := NB395_397.out) (by (with_reducible repeat (first | refine bN ?_ _|refine bD ?_|refine bA ?_ _)); exact BK395.out)) hb); replace BK397 := Aside0.mk (blk_below (g := gb397) (by (with_reducible repeat (first | refine bN ?_ _|refine bD ?_|refine bA ?_ _)); exact put8 (by (with_reducible repeat (first | refine bN ?_ _|refine bD ?_|refine bA ?_ _)); exact BK397.out)) hb); replace HB := Aside0.mk (below_step hB hb); (try clear hb); (try clear hb2); (try clear hk); (try clear hi)))
    go_roundg k1
    case measure => have := HK1.out; omega
    case rel => exact ⟨(x3_1 ++ t398), (wrap64 (x15_1 + 1)), rG, rG, H', ⟨by have := HK1.out; omega⟩, ⟨by (with_reducible repeat (first | refine bN ?_ _|refine bD ?_|refine bA ?_ _)); exact BK395.out⟩, ⟨hB⟩⟩
   ·rw [if_neg c4] at H
    have c4b0 : decide (x15_1 < (l0_6.length : Int)) = false := decide_eq_false c4
    clear c4
    by_cases c13 : a0_0 = 0
    ·rw [if_pos c13] at H
     obtain ⟨c13b0, c13b1⟩ := eqT c13
     clear c13
     obtain rfl := Option.some.inj H
     obtain ⟨hcz14_0, hcz14_1, hcz14_2, hcz14_3, hcz14_4, hcz14_5, hcz14_6, hcz14_7⟩ := bc8 BK395.out
     obtain ⟨hfz14_0, hfz14_1, hfz14_2, hfz14_3, hfz14_4, hfz14_5, hfz14_6, hfz14_7⟩ := bf8 BK395.out
     go_wp2
     go_ret
     exact ⟨rE, hB⟩
    ·rw [if_neg c13] at H
     obtain ⟨c13b0, c13b1⟩ := eqF c13
     by_cases c15 : a0_0 = 2
     ·rw [if_pos c15] at H
      obtain ⟨c15b0, c15b1⟩ := eqT c15
      clear c15
      replace H := Option.bind_eq_some_iff.mp H
      obtain ⟨t399, A160, H⟩ := H
      try dsimp only at H
      have A16 := Aside0.mk A160
      clear A160
      obtain rfl := Option.some.inj H
      obtain ⟨hcz17_0, hcz17_1, hcz17_2, hcz17_3, hcz17_4, hcz17_5, hcz17_6, hcz17_7⟩ := bc8 BK395.out
      obtain ⟨hfz17_0, hfz17_1, hfz17_2, hfz17_3, hfz17_4, hfz17_5, hfz17_6, hfz17_7⟩ := bf8 BK395.out
      go_wp2_with (first | ((with_reducible refine gate_callee (f := 132) rfl ?_); refine goesL_ (some 33) rfl rfl Tryz.func132 (by kernel_rfl) rfl #[.string a0_7] rfl mA ?_; (with_reducible refine (impl_EscText.calls a0_7 t399 _ ?tabs A16.out).mono ?_); (case tabs => first | exact Tabs.below HT.out hB | (repeat (first | exact HT.out | (with_reducible refine Tabs.drewN ?_ _) | (with_reducible refine Tabs.drew ?_) | (with_reducible refine Tabs.alloc ?_ _)))); rintro e w18 ⟨rfl, hb⟩; refine ⟨_, rfl, ?_⟩; replace BK395 := Aside0.mk (blk_below (g := gb395) (by (with_reducible repeat (first | refine bN ?_ _|refine bD ?_|refine bA ?_ _)); exact BK395.out) hb); replace HB := Aside0.mk (below_step hB hb); (try clear hb); (try clear hb2); (try clear hk); (try clear hi)))
      go_ret
      exact ⟨rE, hB⟩
     ·rw [if_neg c15] at H
      obtain ⟨c15b0, c15b1⟩ := eqF c15
      by_cases c19 : a0_0 = 3
      ·rw [if_pos c19] at H
       obtain ⟨c19b0, c19b1⟩ := eqT c19
       clear c19
       obtain ⟨c20, H⟩ := if_som H
       obtain ⟨c20b0, c20b1⟩ := fcT c20
       try have c20b2 : (9223372036854775807 < 4 + a0_7.size) = False := eq_false (Nat.not_lt.2 c20)
       obtain ⟨c21, H⟩ := if_som H
       obtain ⟨c21b0, c21b1⟩ := fcT c21
       try have c21b2 : (9223372036854775807 < 4 + a0_7.size + 3) = False := eq_false (by have h_ := c21; simp only [ByteArray.size_append] at h_; exact Nat.not_lt.2 h_)
       obtain rfl := Option.some.inj H
       obtain ⟨hcz22_0, hcz22_1, hcz22_2, hcz22_3, hcz22_4, hcz22_5, hcz22_6, hcz22_7⟩ := bc8 BK395.out
       obtain ⟨hfz22_0, hfz22_1, hfz22_2, hfz22_3, hfz22_4, hfz22_5, hfz22_6, hfz22_7⟩ := bf8 BK395.out
       go_wp2
       go_ret
       exact ⟨rE, hB⟩
      ·rw [if_neg c19] at H
       obtain ⟨c19b0, c19b1⟩ := eqF c19
       by_cases c23 : a0_0 = 4
       ·rw [if_pos c23] at H
        obtain ⟨c23b0, c23b1⟩ := eqT c23
        clear c23
        by_cases c24 : a0_7.toList = ([] : List UInt8)
        ·rw [if_pos c24] at H
         obtain ⟨c24b0, c24b1⟩ := eqT c24
         clear c24
         obtain ⟨c25, H⟩ := if_som H
         obtain ⟨c25b0, c25b1⟩ := fcT c25
         try have c25b2 : (9223372036854775807 < 2 + a0_2.size) = False := eq_false (Nat.not_lt.2 c25)
         obtain ⟨c26, H⟩ := if_som H
         obtain ⟨c26b0, c26b1⟩ := fcT c26
         try have c26b2 : (9223372036854775807 < 2 + a0_2.size + 2) = False := eq_false (by have h_ := c26; simp only [ByteArray.size_append] at h_; exact Nat.not_lt.2 h_)
         obtain rfl := Option.some.inj H
         obtain ⟨hcz27_0, hcz27_1, hcz27_2, hcz27_3, hcz27_4, hcz27_5, hcz27_6, hcz27_7⟩ := bc8 BK395.out
         obtain ⟨hfz27_0, hfz27_1, hfz27_2, hfz27_3, hfz27_4, hfz27_5, hfz27_6, hfz27_7⟩ := bf8 BK395.out
         go_wp2
         go_ret
         exact ⟨rE, hB⟩
        ·rw [if_neg c24] at H
         obtain ⟨c24b0, c24b1⟩ := eqF c24
         obtain ⟨c28, H⟩ := if_som H
         obtain ⟨c28b0, c28b1⟩ := fcT c28
         try have c28b2 : (9223372036854775807 < 2 + a0_2.size) = False := eq_false (Nat.not_lt.2 c28)
         obtain ⟨c29, H⟩ := if_som H
         obtain ⟨c29b0, c29b1⟩ := fcT c29
         try have c29b2 : (9223372036854775807 < 2 + a0_2.size + 1) = False := eq_false (by have h_ := c29; simp only [ByteArray.size_append] at h_; exact Nat.not_lt.2 h_)
         obtain ⟨c30, H⟩ := if_som H
         obtain ⟨c30b0, c30b1⟩ := fcT c30
         try have c30b2 : (9223372036854775807 < 2 + a0_2.size + 1 + a0_7.size) = False := eq_false (by have h_ := c30; simp only [ByteArray.size_append] at h_; exact Nat.not_lt.2 h_)
         obtain ⟨c31, H⟩ := if_som H
         obtain ⟨c31b0, c31b1⟩ := fcT c31
         try have c31b2 : (9223372036854775807 < 2 + a0_2.size + 1 + a0_7.size + 2) = False := eq_false (by have h_ := c31; simp only [ByteArray.size_append] at h_; exact Nat.not_lt.2 h_)
         obtain rfl := Option.some.inj H
         obtain ⟨hcz32_0, hcz32_1, hcz32_2, hcz32_3, hcz32_4, hcz32_5, hcz32_6, hcz32_7⟩ := bc8 BK395.out
         obtain ⟨hfz32_0, hfz32_1, hfz32_2, hfz32_3, hfz32_4, hfz32_5, hfz32_6, hfz32_7⟩ := bf8 BK395.out
         go_wp2
         go_ret
         exact ⟨rE, hB⟩
       ·rw [if_neg c23] at H
        obtain ⟨c23b0, c23b1⟩ := eqF c23
        replace H := Option.bind_eq_some_iff.mp H
        obtain ⟨t400, A330, H⟩ := H
        try dsimp only at H
        have A33 := Aside0.mk A330
        clear A330
        obtain ⟨c34, H⟩ := if_som H
        obtain ⟨c34b0, c34b1⟩ := fcT c34
        try have c34b2 : (9223372036854775807 < 1 + t400.size) = False := eq_false (Nat.not_lt.2 c34)
        have H' := Aside0.mk H
        clear H
        obtain ⟨hcz35_0, hcz35_1, hcz35_2, hcz35_3, hcz35_4, hcz35_5, hcz35_6, hcz35_7⟩ := bc8 BK395.out
        obtain ⟨hfz35_0, hfz35_1, hfz35_2, hfz35_3, hfz35_4, hfz35_5, hfz35_6, hfz35_7⟩ := bf8 BK395.out
        go_wp2_with (first | ((with_reducible refine gate_callee (f := 133) rfl ?_); refine goesL_ (some 61) rfl rfl Tryz.func133 (by kernel_rfl) rfl #[.string a0_1, .string a0_2] rfl mA ?_; (with_reducible refine (impl_JoinName.calls k1 a0_1 a0_2 t400 _ ?tabs A33.out).mono ?_); (case tabs => first | exact Tabs.below HT.out hB | (repeat (first | exact HT.out | (with_reducible refine Tabs.drewN ?_ _) | (with_reducible refine Tabs.drew ?_) | (with_reducible refine Tabs.alloc ?_ _)))); rintro e w36 ⟨rfl, hb⟩; refine ⟨_, rfl, ?_⟩; replace BK395 := Aside0.mk (blk_below (g := gb395) (by (with_reducible repeat (first | refine bN ?_ _|refine bD ?_|refine bA ?_ _)); exact BK395.out) hb); replace HB := Aside0.mk (below_step hB hb); (try clear hb); (try clear hb2); (try clear hk); (try clear hi); obtain ⟨hcz37_0, hcz37_1, hcz37_2, hcz37_3, hcz37_4, hcz37_5, hcz37_6, hcz37_7⟩ := bc8 BK395.out; obtain ⟨hfz37_0, hfz37_1, hfz37_2, hfz37_3, hfz37_4, hfz37_5, hfz37_6, hfz37_7⟩ := bf8 BK395.out))
        go_loopg [7, 67] k1 (fun kq v7 v67 w' => ∃ (x7_2 : ByteArray) (x67_2 : Int), v7 = .string x7_2 ∧ v67 = .int .i64 x67_2 ∧ Aside0 (impl_written.l1 kq x3_1 t400 x7_2 l0_4 (l0_4.length : Int) x67_2 a0_0 a0_1 a0_2 a0_3 l0_4 l0_5 l0_6 a0_7 = some r) ∧ Aside0 (kq ≤ k1) ∧ Aside0 (w'.heap[gb395]? = some (.cells #[.int .i64 a0_0, .string a0_1, .string a0_2, .string a0_3, (.slice A0_4 l0_4.length c0_4), (.slice A0_5 l0_5.length c0_5), (.slice A0_6 l0_6.length c0_6), .string a0_7] 28 (0, 0))) ∧ Aside0 (Below w.heap.size w w'))
        case atStart => exact ⟨((⟨#[60]⟩ : ByteArray) ++ t400), (0), rG, rG, H', ⟨Nat.le_refl _⟩, ⟨by (with_reducible repeat (first | refine bN ?_ _|refine bD ?_|refine bA ?_ _)); exact BK395.out⟩, ⟨hB⟩⟩
        case round =>
         clear H'
         try clear c34b2; try clear c34; try clear c34b1; try clear c34b0; try clear c23b1; try clear c23; try clear c23b0; try clear c19b1; try clear c19; try clear c19b0; try clear c15b1; try clear c15; try clear c15b0; try clear c13b1; try clear c13; try clear c13b0; try clear c4; try clear c4b0
         try clear hcz35_0 hcz35_1 hcz35_2 hcz35_3 hcz35_4 hcz35_5 hcz35_6 hcz35_7
         try clear hcz37_0 hcz37_1 hcz37_2 hcz37_3 hcz37_4 hcz37_5 hcz37_6 hcz37_7
         try clear hcz3_0 hcz3_1 hcz3_2 hcz3_3 hcz3_4 hcz3_5 hcz3_6 hcz3_7
         try clear hfz35_0 hfz35_1 hfz35_2 hfz35_3 hfz35_4 hfz35_5 hfz35_6 hfz35_7
         try clear hfz37_0 hfz37_1 hfz37_2 hfz37_3 hfz37_4 hfz37_5 hfz37_6 hfz37_7
         try clear hfz3_0 hfz3_1 hfz3_2 hfz3_3 hfz3_4 hfz3_5 hfz3_6 hfz3_7
         obtain ⟨x7_2, x67_2, rfl, rfl, HA, HK2, BK395, HB⟩ := hrel
         cases gk with
         | zero => exact absurd HA.out (by simp [impl_written.l1])
         | succ k2 =>
          have H := HA.out
          clear HA
          simp only [impl_written.l1] at H
          by_cases c38 : x67_2 < (l0_4.length : Int)
          ·rw [if_pos c38] at H
           have c38b0 : decide (x67_2 < (l0_4.length : Int)) = true := decide_eq_true c38
           clear c38
           obtain ⟨c39, H⟩ := if_som H
           have c39b0 : decide (0 ≤ x67_2) = true := decide_eq_true c39
           clear c39
           obtain ⟨c40, H⟩ := if_som H
           have c40b0 : decide (x67_2 < (l0_4.length : Int)) = true := decide_eq_true c40
           clear c40
           replace H := Option.bind_eq_some_iff.mp H
           obtain ⟨t403, A410, H⟩ := H
           try dsimp only at H
           have A41 := Aside0.mk A410
           clear A410
           obtain ⟨c42, H⟩ := if_som H
           obtain ⟨c42b0, c42b1⟩ := fcT c42
           try have c42b2 : (9223372036854775807 < x7_2.size + t403.size) = False := eq_false (Nat.not_lt.2 c42)
           have H' := Aside0.mk H
           clear H
           have p401 : 0 ≤ (x67_2 : Int) := odt
           have q401 : x67_2 < (l0_4.length : Int) := odt
           obtain ⟨ad401, e401, hx401_0, hx401_1⟩ := at_T73 HR0_4.out x67_2 p401 q401
           cases e401
           replace hx401_0 := pw_cell_below HB.out hx401_0
           replace hx401_1 := pw_cell_below HB.out hx401_1
           replace p401 := eq_true p401
           replace q401 := eq_true q401
           go_wp2_with (first | ((with_reducible refine gate_dst (N := 9) rfl ?_); refine box_event ?hg (N := 9) ?hd (cs := #[.string (⟨#[]⟩ : ByteArray), .string (⟨#[]⟩ : ByteArray)]) (t := 73) ?hr ?_; (case hd => rfl); (case hg => rfl); (case hr => first | (go_simp; done) | (go_simp; rfl)); intro gb402 hg w43 hbox hb; have BK402 := Aside0.mk (hbox); have GW402 := Aside0.mk ((by rw [hg]; exact (below_size hB) : w.heap.size ≤ gb402)); have GE402 := Aside0.mk ((by rw [hg]; exact (below_size hB) : w.heap.size ≤ gb402)); replace HB := Aside0.mk (below_step hB hb); have NB395_402 := Aside0.mk ((by rw [hg]; exact Nat.ne_of_lt (blk_lt (g := gb395) (by (with_reducible repeat (first | refine bN ?_ _|refine bD ?_|refine bA ?_ _)); exact BK395.out)) : gb395 ≠ gb402)); have NB402_395 := Aside0.mk ((by rw [hg]; exact Nat.ne_of_gt (blk_lt (g := gb395) (by (with_reducible repeat (first | refine bN ?_ _|refine bD ?_|refine bA ?_ _)); exact BK395.out)) : gb402 ≠ gb395)); replace BK395 := Aside0.mk (blk_below (g := gb395) (by (with_reducible repeat (first | refine bN ?_ _|refine bD ?_|refine bA ?_ _)); exact BK395.out) hb); clear hb hbox hg; have hnb44 := NB402_395.out; have hnc44 := NB395_402.out; obtain ⟨hcz45_0, hcz45_1⟩ := bc2 BK402.out; obtain ⟨hfz45_0, hfz45_1⟩ := bf2 BK402.out) | ((with_reducible refine gate_callee (f := 134) rfl ?_); refine goesL_ (some 73) rfl rfl Tryz.func134 (by kernel_rfl) rfl #[.agg #[.string ((rd_T73 l0_4 x67_2).f0), .string ((rd_T73 l0_4 x67_2).f1)]] rfl mA ?_; (with_reducible refine (impl_declText.calls ((rd_T73 l0_4 x67_2).f0) ((rd_T73 l0_4 x67_2).f1) t403 _ ?tabs A41.out).mono ?_); (case tabs => first | exact Tabs.below HT.out hB | (repeat (first | exact HT.out | (with_reducible refine Tabs.drewN ?_ _) | (with_reducible refine Tabs.drew ?_) | (with_reducible refine Tabs.alloc ?_ _)))); rintro e w46 ⟨rfl, hb⟩; refine ⟨_, rfl, ?_⟩; replace BK395 := Aside0.mk (blk_below (g := gb395) (by (with_reducible repeat (first | refine bN ?_ _|refine bD ?_|refine bA ?_ _)); exact pfa2 (hn := NB395_402.out) (by (with_reducible repeat (first | refine bN ?_ _|refine bD ?_|refine bA ?_ _)); exact BK395.out)) hb); replace BK402 := Aside0.mk (blk_below (g := gb402) (by (with_reducible repeat (first | refine bN ?_ _|refine bD ?_|refine bA ?_ _)); exact put2 (by (with_reducible repeat (first | refine bN ?_ _|refine bD ?_|refine bA ?_ _)); exact BK402.out)) hb); replace HB := Aside0.mk (below_step hB hb); (try clear hb); (try clear hb2); (try clear hk); (try clear hi)))
           go_roundg k2
           case measure => have := HK1.out; have := HK2.out; omega
           case rel => exact ⟨(x7_2 ++ t403), (wrap64 (x67_2 + 1)), rG, rG, H', ⟨by have := HK1.out; have := HK2.out; omega⟩, ⟨by (with_reducible repeat (first | refine bN ?_ _|refine bD ?_|refine bA ?_ _)); exact BK395.out⟩, ⟨hB⟩⟩
          ·rw [if_neg c38] at H
           have c38b0 : decide (x67_2 < (l0_4.length : Int)) = false := decide_eq_false c38
           clear c38
           have H' := Aside0.mk H
           clear H
           obtain ⟨hcz47_0, hcz47_1, hcz47_2, hcz47_3, hcz47_4, hcz47_5, hcz47_6, hcz47_7⟩ := bc8 BK395.out
           obtain ⟨hfz47_0, hfz47_1, hfz47_2, hfz47_3, hfz47_4, hfz47_5, hfz47_6, hfz47_7⟩ := bf8 BK395.out
           go_wp2
           go_loopg [7, 79] k2 (fun kq v7 v79 w' => ∃ (x7_3 : ByteArray) (x79_3 : Int), v7 = .string x7_3 ∧ v79 = .int .i64 x79_3 ∧ Aside0 (impl_written.l2 kq x3_1 t400 x7_3 l0_5 (l0_5.length : Int) x79_3 a0_0 a0_1 a0_2 a0_3 l0_4 l0_5 l0_6 a0_7 = some r) ∧ Aside0 (kq ≤ k2) ∧ Aside0 (w'.heap[gb395]? = some (.cells #[.int .i64 a0_0, .string a0_1, .string a0_2, .string a0_3, (.slice A0_4 l0_4.length c0_4), (.slice A0_5 l0_5.length c0_5), (.slice A0_6 l0_6.length c0_6), .string a0_7] 28 (0, 0))) ∧ Aside0 (Below w.heap.size w w'))
           case atStart => exact ⟨(x7_2), (0), rG, rG, H', ⟨Nat.le_refl _⟩, ⟨by (with_reducible repeat (first | refine bN ?_ _|refine bD ?_|refine bA ?_ _)); exact BK395.out⟩, ⟨hB⟩⟩
           case round =>
            clear H'
            try clear c38; try clear c38b0; try clear c34b2; try clear c34; try clear c34b1; try clear c34b0; try clear c23b1; try clear c23; try clear c23b0; try clear c19b1; try clear c19; try clear c19b0; try clear c15b1; try clear c15; try clear c15b0; try clear c13b1; try clear c13; try clear c13b0; try clear c4; try clear c4b0
            try clear hcz35_0 hcz35_1 hcz35_2 hcz35_3 hcz35_4 hcz35_5 hcz35_6 hcz35_7
            try clear hcz37_0 hcz37_1 hcz37_2 hcz37_3 hcz37_4 hcz37_5 hcz37_6 hcz37_7
            try clear hcz3_0 hcz3_1 hcz3_2 hcz3_3 hcz3_4 hcz3_5 hcz3_6 hcz3_7
            try clear hcz47_0 hcz47_1 hcz47_2 hcz47_3 hcz47_4 hcz47_5 hcz47_6 hcz47_7
            try clear hfz35_0 hfz35_1 hfz35_2 hfz35_3 hfz35_4 hfz35_5 hfz35_6 hfz35_7
            try clear hfz37_0 hfz37_1 hfz37_2 hfz37_3 hfz37_4 hfz37_5 hfz37_6 hfz37_7
            try clear hfz3_0 hfz3_1 hfz3_2 hfz3_3 hfz3_4 hfz3_5 hfz3_6 hfz3_7
            try clear hfz47_0 hfz47_1 hfz47_2 hfz47_3 hfz47_4 hfz47_5 hfz47_6 hfz47_7
            obtain ⟨x7_3, x79_3, rfl, rfl, HA, HK3, BK395, HB⟩ := hrel
            cases gk with
            | zero => exact absurd HA.out (by simp [impl_written.l2])
            | succ k3 =>
             have H := HA.out
             clear HA
             simp only [impl_written.l2] at H
             by_cases c48 : x79_3 < (l0_5.length : Int)
             ·rw [if_pos c48] at H
              have c48b0 : decide (x79_3 < (l0_5.length : Int)) = true := decide_eq_true c48
              clear c48
              obtain ⟨c49, H⟩ := if_som H
              have c49b0 : decide (0 ≤ x79_3) = true := decide_eq_true c49
              clear c49
              obtain ⟨c50, H⟩ := if_som H
              have c50b0 : decide (x79_3 < (l0_5.length : Int)) = true := decide_eq_true c50
              clear c50
              replace H := Option.bind_eq_some_iff.mp H
              obtain ⟨t406, A510, H⟩ := H
              try dsimp only at H
              have A51 := Aside0.mk A510
              clear A510
              obtain ⟨c52, H⟩ := if_som H
              obtain ⟨c52b0, c52b1⟩ := fcT c52
              try have c52b2 : (9223372036854775807 < 1 + t406.size) = False := eq_false (Nat.not_lt.2 c52)
              obtain ⟨c53, H⟩ := if_som H
              obtain ⟨c53b0, c53b1⟩ := fcT c53
              try have c53b2 : (9223372036854775807 < 1 + t406.size + 2) = False := eq_false (by have h_ := c53; simp only [ByteArray.size_append] at h_; exact Nat.not_lt.2 h_)
              replace H := Option.bind_eq_some_iff.mp H
              obtain ⟨t407, A540, H⟩ := H
              try dsimp only at H
              have A54 := Aside0.mk A540
              clear A540
              obtain ⟨c55, H⟩ := if_som H
              obtain ⟨c55b0, c55b1⟩ := fcT c55
              try have c55b2 : (9223372036854775807 < 1 + t406.size + 2 + t407.size) = False := eq_false (by have h_ := c55; simp only [ByteArray.size_append] at h_; exact Nat.not_lt.2 h_)
              obtain ⟨c56, H⟩ := if_som H
              obtain ⟨c56b0, c56b1⟩ := fcT c56
              try have c56b2 : (9223372036854775807 < 1 + t406.size + 2 + t407.size + 1) = False := eq_false (by have h_ := c56; simp only [ByteArray.size_append] at h_; exact Nat.not_lt.2 h_)
              obtain ⟨c57, H⟩ := if_som H
              obtain ⟨c57b0, c57b1⟩ := fcT c57
              try have c57b2 : (9223372036854775807 < x7_3.size + (1 + t406.size + 2 + t407.size + 1)) = False := eq_false (by have h_ := c57; simp only [ByteArray.size_append] at h_; exact Nat.not_lt.2 h_)
              have H' := Aside0.mk H
              clear H
              have p404 : 0 ≤ (x79_3 : Int) := odt
              have q404 : x79_3 < (l0_5.length : Int) := odt
              obtain ⟨ad404, e404, hx404_0, hx404_1, hx404_2, hx404_3⟩ := at_T68 HR0_5.out x79_3 p404 q404
              cases e404
              replace hx404_0 := pw_cell_below HB.out hx404_0
              replace hx404_1 := pw_cell_below HB.out hx404_1
              replace hx404_2 := pw_cell_below HB.out hx404_2
              replace hx404_3 := pw_cell_below HB.out hx404_3
              replace p404 := eq_true p404
              replace q404 := eq_true q404
              try go_wp2_with (first | ((with_reducible refine gate_dst (N := 11) rfl ?_); refine box_event ?hg (N := 11) ?hd (cs := #[.string (⟨#[]⟩ : ByteArray), .string (⟨#[]⟩ : ByteArray), .string (⟨#[]⟩ : ByteArray), .string (⟨#[]⟩ : ByteArray)]) (t := 68) ?hr ?_; (case hd => rfl); (case hg => rfl); (case hr => first | (go_simp; done) | (go_simp; rfl)); intro gb405 hg w58 hbox hb; have BK405 := Aside0.mk (hbox); have GW405 := Aside0.mk ((by rw [hg]; exact (below_size hB) : w.heap.size ≤ gb405)); have GE405 := Aside0.mk ((by rw [hg]; exact (below_size hB) : w.heap.size ≤ gb405)); replace HB := Aside0.mk (below_step hB hb); have NB395_405 := Aside0.mk ((by rw [hg]; exact Nat.ne_of_lt (blk_lt (g := gb395) (by (with_reducible repeat (first | refine bN ?_ _|refine bD ?_|refine bA ?_ _)); exact BK395.out)) : gb395 ≠ gb405)); have NB405_395 := Aside0.mk ((by rw [hg]; exact Nat.ne_of_gt (blk_lt (g := gb395) (by (with_reducible repeat (first | refine bN ?_ _|refine bD ?_|refine bA ?_ _)); exact BK395.out)) : gb405 ≠ gb395)); replace BK395 := Aside0.mk (blk_below (g := gb395) (by (with_reducible repeat (first | refine bN ?_ _|refine bD ?_|refine bA ?_ _)); exact BK395.out) hb); clear hb hbox hg; have hnb59 := NB405_395.out; have hnc59 := NB395_405.out; obtain ⟨hcz60_0, hcz60_1, hcz60_2, hcz60_3⟩ := bc4 BK405.out; obtain ⟨hfz60_0, hfz60_1, hfz60_2, hfz60_3⟩ := bf4 BK405.out))
              have n0_ : Aside0 (((((w58.setCell ⟨gb405, 0, none⟩ (.string ((rd_T68 l0_5 x79_3).f0))).setCell ⟨gb405, 1, none⟩ (.string ((rd_T68 l0_5 x79_3).f1))).setCell ⟨gb405, 2, none⟩ (.string ((rd_T68 l0_5 x79_3).f2))).setCell ⟨gb405, 3, none⟩ (.string ((rd_T68 l0_5 x79_3).f3))).heap[gb395]? = some (.cells #[.int .i64 a0_0, .string a0_1, .string a0_2, .string a0_3, .slice A0_4 l0_4.length c0_4, .slice (some ad404) l0_5.length c0_5, .slice A0_6 l0_6.length c0_6, .string a0_7] 28 (0, 0))) := ⟨by (with_reducible repeat (first | refine bN ?_ _|refine bD ?_|refine bA ?_ _)); exact pfa4 (hn := NB395_405.out) (by (with_reducible repeat (first | refine bN ?_ _|refine bD ?_|refine bA ?_ _)); exact BK395.out)⟩
              have n1_ : Aside0 (((((w58.setCell ⟨gb405, 0, none⟩ (.string ((rd_T68 l0_5 x79_3).f0))).setCell ⟨gb405, 1, none⟩ (.string ((rd_T68 l0_5 x79_3).f1))).setCell ⟨gb405, 2, none⟩ (.string ((rd_T68 l0_5 x79_3).f2))).setCell ⟨gb405, 3, none⟩ (.string ((rd_T68 l0_5 x79_3).f3))).heap[gb405]? = some (.cells #[.string ((rd_T68 l0_5 x79_3).f0), .string ((rd_T68 l0_5 x79_3).f1), .string ((rd_T68 l0_5 x79_3).f2), .string ((rd_T68 l0_5 x79_3).f3)] 68 (0, 0))) := ⟨by (with_reducible repeat (first | refine bN ?_ _|refine bD ?_|refine bA ?_ _)); exact put4 (by (with_reducible repeat (first | refine bN ?_ _|refine bD ?_|refine bA ?_ _)); exact BK405.out)⟩
              have n2_ : Aside0 (Below w.heap.size w ((((w58.setCell ⟨gb405, 0, none⟩ (.string ((rd_T68 l0_5 x79_3).f0))).setCell ⟨gb405, 1, none⟩ (.string ((rd_T68 l0_5 x79_3).f1))).setCell ⟨gb405, 2, none⟩ (.string ((rd_T68 l0_5 x79_3).f2))).setCell ⟨gb405, 3, none⟩ (.string ((rd_T68 l0_5 x79_3).f3)))) := ⟨hB⟩
              (try clear BK395)
              (try clear BK405)
              (try clear HB)
              generalize ((((w58.setCell ⟨gb405, 0, none⟩ (.string ((rd_T68 l0_5 x79_3).f0))).setCell ⟨gb405, 1, none⟩ (.string ((rd_T68 l0_5 x79_3).f1))).setCell ⟨gb405, 2, none⟩ (.string ((rd_T68 l0_5 x79_3).f2))).setCell ⟨gb405, 3, none⟩ (.string ((rd_T68 l0_5 x79_3).f3))) = w61 at n0_ n1_ n2_ ⊢
              have BK395 := n0_
              have BK405 := n1_
              have HB := n2_
              clear n0_ n1_ n2_
              replace BK395 := Aside0.mk (blk_drew BK395.out)
              replace BK405 := Aside0.mk (blk_drew BK405.out)
              replace HB := Aside0.mk (below_drew1 HB.out)
              refine start_ (n := 15) (S := fun w' => w'.cell? ⟨gb405, 0, none⟩ = some (.string ((rd_T68 l0_5 x79_3).f0)) ∧ w'.cell? ⟨gb405, 1, none⟩ = some (.string ((rd_T68 l0_5 x79_3).f1)) ∧ w'.cell? ⟨gb405, 2, none⟩ = some (.string ((rd_T68 l0_5 x79_3).f2)) ∧ w'.cell? ⟨gb405, 3, none⟩ = some (.string ((rd_T68 l0_5 x79_3).f3))) (ds := []) #[false, false, false, false, false, false, false, false, false, false, false, false, false, false, false] (by kernel_rfl) rfl rfl ⟨(blk_cell BK405.out 0).trans rfl, (blk_cell BK405.out 1).trans rfl, (blk_cell BK405.out 2).trans rfl, (blk_cell BK405.out 3).trans rfl⟩ (fun hHeld => ?_); refine with_tabW impl_written.tab28 impl_written.bits28 (fun HT_ HW_ => ?_)
              generalize w61.drew = w62 at BK395 BK405 HB hHeld ⊢
              refine pU 0 83 (tf 1 14) ?_
              refine pU 1 84 (tf 2 13) ?_
              refine pU 3 86 #[true, true, false, true, false, false, false, false, false, false, false, false, false, false, false] ?_
              refine pU 8 91 #[true, true, false, true, false, false, false, false, true, false, false, false, false, false, false] ?_
              refine take_ (i := 2) (N := some 85) (v := ?_) (a' := ?_) #[true, true, true, true, false, false, false, false, true, false, false, false, false, false, false] rfl rfl (take_ofW HT_.out HW_.out (by kernel_rfl)) (fun _ _ _ h => h) (Or.inl ⟨by rfl, ?_⟩) hHeld ?_ ?_
              rotate_left
              ·rintro w' ⟨s0, s1, s2, s3⟩
               go_simp
               with_reducible rfl
              rotate_left
              ·simp only [Act.put, sT, sZ, sS, i64_w, i32_w]
               rfl
              refine take_ (i := 4) (N := some 87) (v := ?_) (a' := ?_) #[true, true, true, true, true, false, false, false, true, false, false, false, false, false, false] rfl rfl (take_ofW HT_.out HW_.out (by kernel_rfl)) (fun _ _ _ h => h) (Or.inl ⟨by rfl, ?_⟩) hHeld ?_ ?_
              rotate_left
              ·rintro w' ⟨s0, s1, s2, s3⟩
               go_simp
               with_reducible rfl
              rotate_left
              ·simp only [Act.put, sT, sZ, sS, i64_w, i32_w]
               rfl
              refine take_ (i := 9) (N := some 92) (v := ?_) (a' := ?_) #[true, true, true, true, true, false, false, false, true, true, false, false, false, false, false] rfl rfl (take_ofW HT_.out HW_.out (by kernel_rfl)) (fun _ _ _ h => h) (Or.inl ⟨by rfl, ?_⟩) hHeld ?_ ?_
              rotate_left
              ·rintro w' ⟨s0, s1, s2, s3⟩
               go_simp
               with_reducible rfl
              rotate_left
              ·simp only [Act.put, sT, sZ, sS, i64_w, i32_w]
               rfl
              refine one_ (i := 5) (N := some 88) #[true, true, true, true, true, true, false, false, true, true, false, false, false, false, false] rfl rfl (one_of HT_.out (by kernel_rfl)) (by decide) (fun K hK => ?_)
              refine goes_ Tryz.func133 (by kernel_rfl) rfl #[.string ((rd_T68 l0_5 x79_3).f0), .string ((rd_T68 l0_5 x79_3).f1)] (by rfl) rfl rfl mA ?_
              with_reducible refine (impl_JoinName.calls k3 ((rd_T68 l0_5 x79_3).f0) ((rd_T68 l0_5 x79_3).f1) t406 _ ?tabs A51.out).mono ?_
              case tabs => first | exact Tabs.below HT.out hB | (repeat (first | exact HT.out | (with_reducible refine Tabs.drewN ?_ _) | (with_reducible refine Tabs.drew ?_) | (with_reducible refine Tabs.alloc ?_ _)))
              rintro e w63 ⟨rfl, hb⟩
              refine ⟨_, rfl, ?_⟩
              replace BK395 := Aside0.mk (blk_below (g := gb395) (by (with_reducible repeat (first | refine bN ?_ _|refine bD ?_|refine bA ?_ _)); exact BK395.out) hb)
              replace BK405 := Aside0.mk (blk_below (g := gb405) (by (with_reducible repeat (first | refine bN ?_ _|refine bD ?_|refine bA ?_ _)); exact BK405.out) hb)
              replace HB := Aside0.mk (below_step hB hb)
              (try clear hb)
              (try clear hb2)
              (try clear hk)
              (try clear hi)
              refine hK.out _ _ ⟨(blk_cell BK405.out 0).trans rfl, (blk_cell BK405.out 1).trans rfl, (blk_cell BK405.out 2).trans rfl, (blk_cell BK405.out 3).trans rfl⟩ (fun hHeld => ?_)
              clear hK K
              refine norm_ (a' := ?_) ?_ ?_
              rotate_left
              ·show Act.put _ (some 88) _ = _
               simp only [Act.put, sT, sZ, sS, i64_w, i32_w]
               rfl
              refine pU 6 89 #[true, true, true, true, true, true, true, false, true, true, false, false, false, false, false] ?_
              refine pU 7 90 (tf 10 5) ?_
              refine one_ (i := 10) (N := some 93) (tf 11 4) rfl rfl (one_of HT_.out (by kernel_rfl)) (by decide) (fun K hK => ?_)
              refine goes_ Tryz.func135 (by kernel_rfl) rfl #[.string ((rd_T68 l0_5 x79_3).f3)] (by rfl) rfl rfl mA ?_
              with_reducible refine (impl_EscAttr.calls ((rd_T68 l0_5 x79_3).f3) t407 _ ?tabs A54.out).mono ?_
              case tabs => first | exact Tabs.below HT.out hB | (repeat (first | exact HT.out | (with_reducible refine Tabs.drewN ?_ _) | (with_reducible refine Tabs.drew ?_) | (with_reducible refine Tabs.alloc ?_ _)))
              rintro e w64 ⟨rfl, hb⟩
              refine ⟨_, rfl, ?_⟩
              replace BK395 := Aside0.mk (blk_below (g := gb395) (by (with_reducible repeat (first | refine bN ?_ _|refine bD ?_|refine bA ?_ _)); exact BK395.out) hb)
              replace BK405 := Aside0.mk (blk_below (g := gb405) (by (with_reducible repeat (first | refine bN ?_ _|refine bD ?_|refine bA ?_ _)); exact BK405.out) hb)
              replace HB := Aside0.mk (below_step hB hb)
              (try clear hb)
              (try clear hb2)
              (try clear hk)
              (try clear hi)
              refine hK.out _ _ ⟨(blk_cell BK405.out 0).trans rfl, (blk_cell BK405.out 1).trans rfl, (blk_cell BK405.out 2).trans rfl, (blk_cell BK405.out 3).trans rfl⟩ (fun hHeld => ?_)
              clear hK K
              refine norm_ (a' := ?_) ?_ ?_
              rotate_left
              ·show Act.put _ (some 93) _ = _
               simp only [Act.put, sT, sZ, sS, i64_w, i32_w]
               rfl
              refine pU 11 94 (tf 12 3) ?_
              refine pU 12 95 (tf 13 2) ?_
              refine pU 13 96 (tf 14 1) ?_
              refine pU 14 7 (tf 15 0) ?_
              refine done_ (done_of HT_.out (by kernel_rfl)) ?_
              try go_wp2
              go_roundg k3
              case measure => have := HK1.out; have := HK2.out; have := HK3.out; omega
              case rel => exact ⟨(x7_3 ++ (((((⟨#[32]⟩ : ByteArray) ++ t406) ++ (⟨#[61, 34]⟩ : ByteArray)) ++ t407) ++ (⟨#[34]⟩ : ByteArray))), (wrap64 (x79_3 + 1)), rG, rG, H', ⟨by have := HK1.out; have := HK2.out; have := HK3.out; omega⟩, ⟨by (with_reducible repeat (first | refine bN ?_ _|refine bD ?_|refine bA ?_ _)); exact BK395.out⟩, ⟨hB⟩⟩
             ·rw [if_neg c48] at H
              have c48b0 : decide (x79_3 < (l0_5.length : Int)) = false := decide_eq_false c48
              clear c48
              by_cases c65 : (l0_6.length : Int) = 0
              ·rw [if_pos c65] at H
               obtain ⟨c65b0, c65b1⟩ := eqT c65
               clear c65
               obtain ⟨c66, H⟩ := if_som H
               obtain ⟨c66b0, c66b1⟩ := fcT c66
               try have c66b2 : (9223372036854775807 < x7_3.size + 2) = False := eq_false (Nat.not_lt.2 c66)
               obtain rfl := Option.some.inj H
               obtain ⟨hcz67_0, hcz67_1, hcz67_2, hcz67_3, hcz67_4, hcz67_5, hcz67_6, hcz67_7⟩ := bc8 BK395.out
               obtain ⟨hfz67_0, hfz67_1, hfz67_2, hfz67_3, hfz67_4, hfz67_5, hfz67_6, hfz67_7⟩ := bf8 BK395.out
               go_wp2
               go_ret
               exact ⟨rE, hB⟩
              ·rw [if_neg c65] at H
               obtain ⟨c65b0, c65b1⟩ := eqF c65
               have c65b2 : ¬ (l0_6 = []) := fun h_ => c65 (by rw [h_]; rfl)
               obtain ⟨c68, H⟩ := if_som H
               obtain ⟨c68b0, c68b1⟩ := fcT c68
               try have c68b2 : (9223372036854775807 < x7_3.size + 1) = False := eq_false (Nat.not_lt.2 c68)
               obtain ⟨c69, H⟩ := if_som H
               obtain ⟨c69b0, c69b1⟩ := fcT c69
               try have c69b2 : (9223372036854775807 < x7_3.size + 1 + x3_1.size) = False := eq_false (by have h_ := c69; simp only [ByteArray.size_append] at h_; exact Nat.not_lt.2 h_)
               obtain ⟨c70, H⟩ := if_som H
               obtain ⟨c70b0, c70b1⟩ := fcT c70
               try have c70b2 : (9223372036854775807 < x7_3.size + 1 + x3_1.size + 2) = False := eq_false (by have h_ := c70; simp only [ByteArray.size_append] at h_; exact Nat.not_lt.2 h_)
               obtain ⟨c71, H⟩ := if_som H
               obtain ⟨c71b0, c71b1⟩ := fcT c71
               try have c71b2 : (9223372036854775807 < x7_3.size + 1 + x3_1.size + 2 + t400.size) = False := eq_false (by have h_ := c71; simp only [ByteArray.size_append] at h_; exact Nat.not_lt.2 h_)
               obtain ⟨c72, H⟩ := if_som H
               obtain ⟨c72b0, c72b1⟩ := fcT c72
               try have c72b2 : (9223372036854775807 < x7_3.size + 1 + x3_1.size + 2 + t400.size + 1) = False := eq_false (by have h_ := c72; simp only [ByteArray.size_append] at h_; exact Nat.not_lt.2 h_)
               obtain rfl := Option.some.inj H
               obtain ⟨hcz73_0, hcz73_1, hcz73_2, hcz73_3, hcz73_4, hcz73_5, hcz73_6, hcz73_7⟩ := bc8 BK395.out
               obtain ⟨hfz73_0, hfz73_1, hfz73_2, hfz73_3, hfz73_4, hfz73_5, hfz73_6, hfz73_7⟩ := bf8 BK395.out
               go_wp2
               go_ret
               exact ⟨rE, hB⟩
/-! ### impl_WriteNode: function 59 -/
def impl_WriteNode.f (k : Nat) (a0_0 : Int) (a0_1 : ByteArray) (a0_2 : ByteArray) (a0_3 : ByteArray) (l0_4 : List (S73)) (l0_5 : List (S68)) (l0_6 : List (S28)) (a0_7 : ByteArray) : Option (ByteArray) := (impl_NodeOk.f k a0_0 a0_1 a0_2 a0_3 l0_4 l0_5 l0_6 a0_7).bind fun t409 => (if t409 = true then ((impl_written.f k a0_0 a0_1 a0_2 a0_3 l0_4 l0_5 l0_6 a0_7).bind fun t410 => (some t410)) else (some (⟨#[]⟩ : ByteArray)))
theorem impl_WriteNode.calls (k : Nat) (a0_0 : Int) (a0_1 : ByteArray) (a0_2 : ByteArray) (a0_3 : ByteArray) (A0_4 : Option Addr) (c0_4 : Nat) (l0_4 : List (S73)) (A0_5 : Option Addr) (c0_5 : Nat) (l0_5 : List (S68)) (A0_6 : Option Addr) (c0_6 : Nat) (l0_6 : List (S28)) (a0_7 : ByteArray) (r : ByteArray) (w : World) (hr0_4 : Kd.C k73 w A0_4 l0_4.length l0_4) (hc0_4 : l0_4.length ≤ c0_4) (hr0_5 : Kd.C k68 w A0_5 l0_5.length l0_5) (hc0_5 : l0_5.length ≤ c0_5) (hr0_6 : Kd.C k28 w A0_6 l0_6.length l0_6) (hc0_6 : l0_6.length ≤ c0_6) (hTab : Tabs w) (h : impl_WriteNode.f k a0_0 a0_1 a0_2 a0_3 l0_4 l0_5 l0_6 a0_7 = some r) :
  Calls Tryz.prog 59 #[.agg #[.int .i64 a0_0, .string a0_1, .string a0_2, .string a0_3, .slice A0_4 l0_4.length c0_4, .slice A0_5 l0_5.length c0_5, .slice A0_6 l0_6.length c0_6, .string a0_7]] w fun e w' => e = .returned (.string r) ∧ Below w.heap.size w w' := by
 have HT := Aside0.mk hTab
 clear hTab
 have hu28 := Tryz.underlying28
 have HR0_4 := Aside0.mk hr0_4
 have HC0_4 := Aside0.mk hc0_4
 clear hr0_4 hc0_4
 have HR0_5 := Aside0.mk hr0_5
 have HC0_5 := Aside0.mk hc0_5
 clear hr0_5 hc0_5
 have HR0_6 := Aside0.mk hr0_6
 have HC0_6 := Aside0.mk hc0_6
 clear hr0_6 hc0_6
 have HB := Aside0.mk (Below.refl w.heap.size w)
 have H : ((impl_NodeOk.f k a0_0 a0_1 a0_2 a0_3 l0_4 l0_5 l0_6 a0_7).bind fun t409 => (if t409 = true then ((impl_written.f k a0_0 a0_1 a0_2 a0_3 l0_4 l0_5 l0_6 a0_7).bind fun t410 => (some t410)) else (some (⟨#[]⟩ : ByteArray)))) = some r := h
 clear h
 replace H := Option.bind_eq_some_iff.mp H
 obtain ⟨t409, A20, H⟩ := H
 try dsimp only at H
 have A2 := Aside0.mk A20
 clear A20
 go_enter Tryz.func59, Tryz.ntmps59
 go_wp2_with (first | ((with_reducible refine gate_dst (N := 1) rfl ?_); refine box_event ?hg (N := 1) ?hd (cs := #[.int .i64 a0_0, .string a0_1, .string a0_2, .string a0_3, .slice A0_4 l0_4.length c0_4, .slice A0_5 l0_5.length c0_5, .slice A0_6 l0_6.length c0_6, .string a0_7]) (t := 28) ?hr ?_; (case hd => rfl); (case hg => rfl); (case hr => first | (go_simp; done) | (go_simp; rfl)); intro gb408 hg w3 hbox hb; have BK408 := Aside0.mk (hbox); have GW408 := Aside0.mk ((by rw [hg]; exact (below_size hB) : w.heap.size ≤ gb408)); have GE408 := Aside0.mk ((by rw [hg]; exact (below_size hB) : w.heap.size ≤ gb408)); replace HB := Aside0.mk (below_step hB hb); clear hb hbox hg; obtain ⟨hcz4_0, hcz4_1, hcz4_2, hcz4_3, hcz4_4, hcz4_5, hcz4_6, hcz4_7⟩ := bc8 BK408.out) | ((with_reducible refine gate_callee (f := 16) rfl ?_); refine goesL_ (some 4) rfl rfl Tryz.func16 (by kernel_rfl) rfl #[.agg #[.int .i64 a0_0, .string a0_1, .string a0_2, .string a0_3, .slice A0_4 l0_4.length c0_4, .slice A0_5 l0_5.length c0_5, .slice A0_6 l0_6.length c0_6, .string a0_7]] rfl mA ?_; (with_reducible refine (impl_NodeOk.calls k a0_0 a0_1 a0_2 a0_3 _ _ l0_4 _ _ l0_5 _ _ l0_6 a0_7 t409 _ ?side1 ?side2 ?side3 ?side4 ?side5 ?side6 ?tabs A2.out).mono ?_); (case tabs => first | exact Tabs.below HT.out hB | (repeat (first | exact HT.out | (with_reducible refine Tabs.drewN ?_ _) | (with_reducible refine Tabs.drew ?_) | (with_reducible refine Tabs.alloc ?_ _)))); (case side1 => repeat (first | exact (Kd.C_below HR0_4.out HB.out) | (with_reducible refine Kd.C_alloc ?_ _) | (with_reducible refine Kd.C_drewN ?_ _) | (with_reducible refine Kd.C_drew ?_))); (case side2 => exact HC0_4.out); (case side3 => repeat (first | exact (Kd.C_below HR0_5.out HB.out) | (with_reducible refine Kd.C_alloc ?_ _) | (with_reducible refine Kd.C_drewN ?_ _) | (with_reducible refine Kd.C_drew ?_))); (case side4 => exact HC0_5.out); (case side5 => repeat (first | exact (Kd.C_below HR0_6.out HB.out) | (with_reducible refine Kd.C_alloc ?_ _) | (with_reducible refine Kd.C_drewN ?_ _) | (with_reducible refine Kd.C_drew ?_))); (case side6 => exact HC0_6.out); rintro e w5 ⟨rfl, hb⟩; refine ⟨_, rfl, ?_⟩; replace BK408 := Aside0.mk (blk_below (g := gb408) (by (with_reducible repeat (first | refine bN ?_ _|refine bD ?_|refine bA ?_ _)); exact BK408.out) hb); replace HB := Aside0.mk (below_step hB hb); (try clear hb); (try clear hb2); (try clear hk); (try clear hi); refine halt_ ?_; intro q_ hq_))
 obtain ⟨rfl⟩ := hq_
 by_cases c6 : t409 = true
 ·subst c6
  rw [if_pos rfl] at H
  replace H := Option.bind_eq_some_iff.mp H
  obtain ⟨t410, A70, H⟩ := H
  try dsimp only at H
  have A7 := Aside0.mk A70
  clear A70
  obtain rfl := Option.some.inj H
  obtain ⟨hcz8_0, hcz8_1, hcz8_2, hcz8_3, hcz8_4, hcz8_5, hcz8_6, hcz8_7⟩ := bc8 BK408.out
  go_wp2_with (first | ((with_reducible refine gate_callee (f := 94) rfl ?_); refine goesL_ (some 7) rfl rfl Tryz.func94 (by kernel_rfl) rfl #[.agg #[.int .i64 a0_0, .string a0_1, .string a0_2, .string a0_3, .slice A0_4 l0_4.length c0_4, .slice A0_5 l0_5.length c0_5, .slice A0_6 l0_6.length c0_6, .string a0_7]] rfl mA ?_; (with_reducible refine (impl_written.calls k a0_0 a0_1 a0_2 a0_3 _ _ l0_4 _ _ l0_5 _ _ l0_6 a0_7 t410 _ ?side1 ?side2 ?side3 ?side4 ?side5 ?side6 ?tabs A7.out).mono ?_); (case tabs => first | exact Tabs.below HT.out hB | (repeat (first | exact HT.out | (with_reducible refine Tabs.drewN ?_ _) | (with_reducible refine Tabs.drew ?_) | (with_reducible refine Tabs.alloc ?_ _)))); (case side1 => repeat (first | exact (Kd.C_below HR0_4.out HB.out) | (with_reducible refine Kd.C_alloc ?_ _) | (with_reducible refine Kd.C_drewN ?_ _) | (with_reducible refine Kd.C_drew ?_))); (case side2 => exact HC0_4.out); (case side3 => repeat (first | exact (Kd.C_below HR0_5.out HB.out) | (with_reducible refine Kd.C_alloc ?_ _) | (with_reducible refine Kd.C_drewN ?_ _) | (with_reducible refine Kd.C_drew ?_))); (case side4 => exact HC0_5.out); (case side5 => repeat (first | exact (Kd.C_below HR0_6.out HB.out) | (with_reducible refine Kd.C_alloc ?_ _) | (with_reducible refine Kd.C_drewN ?_ _) | (with_reducible refine Kd.C_drew ?_))); (case side6 => exact HC0_6.out); rintro e w9 ⟨rfl, hb⟩; refine ⟨_, rfl, ?_⟩; replace BK408 := Aside0.mk (blk_below (g := gb408) (by (with_reducible repeat (first | refine bN ?_ _|refine bD ?_|refine bA ?_ _)); exact BK408.out) hb); replace HB := Aside0.mk (below_step hB hb); (try clear hb); (try clear hb2); (try clear hk); (try clear hi)))
  go_ret
  exact ⟨rE, hB⟩
 ·replace c6 := Bool.eq_false_iff.mpr c6
  subst c6
  rw [if_neg (show ¬ (false = true) by decide)] at H
  obtain rfl := Option.some.inj H
  go_wp2
  go_ret
  exact ⟨rE, hB⟩

/-! ### impl_summed: function 64 -/
def impl_summed.f (a0 : Int) (a1 : Int) : Option (Int) := some ((((Go.bits .xor .i64 a0 a1) % 4294967296) * 16777619) % 4294967296)
theorem impl_summed.calls (a0 : Int) (a1 : Int) (r : Int) (w : World) (h : impl_summed.f a0 a1 = some r) :
  Calls Tryz.prog 64 #[.int .i64 a0, .int .i64 a1] w fun e w' => e = .returned (.int .i64 r) ∧ Drawn0 w w' := by
 have H : (some ((((Go.bits .xor .i64 a0 a1) % 4294967296) * 16777619) % 4294967296)) = some r := h
 clear h
 obtain rfl := Option.some.inj H
 go_enter Tryz.func64, Tryz.ntmps64
 go_wp2
 go_ret
 exact ⟨by first | rfl | (simp; done) | (simp [*]; done), by repeat (first | exact Drawn0.refl _ | apply Drawn0.step)⟩

/-! ### impl_HashOf: function 31 -/
def impl_HashOf.sum : List UInt8 → Int → Option Int
  | [], h => some h
  | b :: bs, h => (impl_summed.f h (b.toNat : Int)).bind (impl_HashOf.sum bs)
def impl_HashOf.f (k : Nat) (a0_0 : Int) (a0_1 a0_2 a0_3 : ByteArray) (l0_4 : List S73) (l0_5 : List S68) (l0_6 : List S28) (a0_7 : ByteArray) : Option Int :=
  (impl_WriteNode.f k a0_0 a0_1 a0_2 a0_3 l0_4 l0_5 l0_6 a0_7).bind fun s => if s.size ≤ 4611686018427387904 then impl_HashOf.sum s.data.toList 2166136261 else none
theorem impl_HashOf.conv {P : Program} {W : World} {o : Oper} {ev : Operand → Value} {x : Operand} {src dst : TypeId} (s : ByteArray) {u : TypeDesc} (ho : o.op = .convert src dst x) (hx : ev x = .string s) (hs : P.underlying src = some u) (hd : P.underlying dst = some (.slice 5)) (he : P.underlying 5 = some (.int .u8)) :
    (execOp ev o).run P W = .ok (.value (.slice (some ⟨W.heap.size, 0, none⟩) s.size (grownCap W s.size 0 5))) (Go.Lib.bytesWorld W 5 s) := by
  unfold execOp
  simp only [ho, hx, Go.Lib.run_convert_string_bytes W src dst 5 s hs hd he, Sem.run_bind, Sem.run_pure, Result.andThen_ok]
theorem impl_HashOf.below_new (w : World) (s : ByteArray) : Below w.heap.size w (Go.Lib.bytesWorld w 5 s) := by
  refine ⟨?_, ?_, ?_, ?_, fun k hk => Go.Lib.bytesWorld_at_old w 5 s k hk⟩
  · simp [Go.Lib.bytesWorld, World.freeze, World.alloc, World.drew, -World.alloc_eq, -World.drew_eq]
  · simp [Go.Lib.bytesWorld, World.freeze, World.alloc, World.drew, -World.alloc_eq, -World.drew_eq]
  · simp [Go.Lib.bytesWorld, World.freeze, World.alloc, World.drew, -World.alloc_eq, -World.drew_eq]
  · rw [Go.Lib.bytesWorld_size]; omega
set_option maxRecDepth 100000 in
set_option maxHeartbeats 2000000 in
theorem impl_HashOf.calls (k : Nat) (a0_0 : Int) (a0_1 a0_2 a0_3 : ByteArray) (A0_4 : Option Addr) (c0_4 : Nat) (l0_4 : List S73) (A0_5 : Option Addr) (c0_5 : Nat) (l0_5 : List S68) (A0_6 : Option Addr) (c0_6 : Nat) (l0_6 : List S28) (a0_7 : ByteArray) (r : Int) (w : World) (hr0_4 : Kd.C k73 w A0_4 l0_4.length l0_4) (hc0_4 : l0_4.length ≤ c0_4) (hr0_5 : Kd.C k68 w A0_5 l0_5.length l0_5) (hc0_5 : l0_5.length ≤ c0_5) (hr0_6 : Kd.C k28 w A0_6 l0_6.length l0_6) (hc0_6 : l0_6.length ≤ c0_6) (hTab : Tabs w) (h : impl_HashOf.f k a0_0 a0_1 a0_2 a0_3 l0_4 l0_5 l0_6 a0_7 = some r) :
    Calls Tryz.prog 31 #[.agg #[.int .i64 a0_0, .string a0_1, .string a0_2, .string a0_3, .slice A0_4 l0_4.length c0_4, .slice A0_5 l0_5.length c0_5, .slice A0_6 l0_6.length c0_6, .string a0_7]] w fun e w' => e = .returned (.int .i64 r) ∧ Below w.heap.size w w' := by
  obtain ⟨s, hs, h⟩ := Option.bind_eq_some_iff.1 h
  obtain ⟨hz, h⟩ := if_som h
  have hX := fun (W : World) (hW : Below w.heap.size w W) => impl_WriteNode.calls k a0_0 a0_1 a0_2 a0_3 A0_4 c0_4 l0_4 A0_5 c0_5 l0_5 A0_6 c0_6 l0_6 a0_7 s W (Kd.C_below hr0_4 hW) hc0_4 (Kd.C_below hr0_5 hW) hc0_5 (Kd.C_below hr0_6 hW) hc0_6 (hTab.below hW) hs
  have hu := Tryz.underlying28
  have H := Aside0.mk h
  clear hr0_4 hc0_4 hr0_5 hc0_5 hr0_6 hc0_6 hs h hTab
  generalize l0_4.length = n4 at hX ⊢
  generalize l0_5.length = n5 at hX ⊢
  generalize l0_6.length = n6 at hX ⊢
  have HX := Aside0.mk hX
  clear hX
  go_enter Tryz.func31, Tryz.ntmps31
  go_wp2_with (first
    | (go_at_call 59; refine (HX.out _ ?a1).mono ?_; (case a1 => exact below_alloc (Below.refl _ _) _); rintro e w1 ⟨rfl, hb⟩; have HB := Aside0.mk (below_then (below_alloc (Below.refl w.heap.size w) _) (by simp) hb); clear hb)
    | ((with_reducible refine gate_dst (N := 8) rfl ?_); refine Kd.event_run rfl (impl_HashOf.conv s rfl rfl Tryz.underlying9 Tryz.underlying22 Tryz.underlying5) ?_; have HC := Aside0.mk (Go.Lib.bytesWorld_cell w1 5 s); have HB2 := Aside0.mk (HB.out.trans ((impl_HashOf.below_new w1 s).mono HB.out.size)); have HS := Aside0.mk (show w1.heap.size < (Go.Lib.bytesWorld w1 5 s).heap.size by rw [Go.Lib.bytesWorld_size]; omega); generalize Go.Lib.bytesWorld w1 5 s = w2 at *; generalize grownCap _ _ _ _ = cap))
  have hsz : s.data.toList.length = s.size := Array.length_toList
  go_loopg [3, 5, 10] s.size (fun gg s3 _ s10 wr => ∃ (kk : Nat) (h : Int), kk ≤ s.size ∧ s.size - kk ≤ gg ∧ s3 = .int .i64 h ∧ s10 = .int .i64 kk ∧ Aside0 (Below w.heap.size w wr) ∧ Aside0 (Below w2.heap.size w2 wr) ∧ Aside0 (impl_HashOf.sum (s.data.toList.drop kk) h = some r))
  case atStart => exact ⟨0, 2166136261, Nat.zero_le _, by omega, rfl, rfl, ⟨HB2.out⟩, ⟨Below.refl _ _⟩, ⟨by simpa using H.out⟩⟩
  case round =>
    obtain ⟨kk, h, hkk, hg, rfl, rfl, BW, BX, A⟩ := hrel
    by_cases hlt : kk < s.size
    · have hltz : (kk : Int) < (s.size : Int) := by omega
      have hc : wr.cell? ⟨w1.heap.size, kk, none⟩ = some (.int .u8 ((s.data.toList.getD kk 0).toNat : Int)) := (BX.out.cell (p := ⟨w1.heap.size, kk, none⟩) HS.out).trans (HC.out kk hlt)
      have A2 := A.out
      have hd : s.data.toList.drop kk = s.data.toList.getD kk 0 :: s.data.toList.drop (kk + 1) := by
        rw [List.drop_eq_getElem_cons (by omega), List.getD_eq_getElem?_getD, List.getElem?_eq_getElem (by omega), Option.getD_some]
      rw [hd] at A2
      obtain ⟨x, hx, A3⟩ := Option.bind_eq_some_iff.1 (show (impl_summed.f h ((s.data.toList.getD kk 0).toNat : Int)).bind (impl_HashOf.sum (s.data.toList.drop (kk + 1))) = some r from A2)
      have hb := (s.data.toList.getD kk 0).toNat_lt
      have X := Aside0.mk hx
      have A4 := Aside0.mk A3
      clear A A2 A3 hx hd
      generalize (s.data.toList.getD kk 0).toNat = b at *
      go_wp2_with (go_at_call 64; refine (impl_summed.calls h (b : Int) x _ X.out).mono ?_; rintro e w' ⟨rfl, ⟨nd, rfl⟩⟩)
      go_roundg (s.size - (kk + 1))
      case measure => omega
      case rel => exact ⟨kk + 1, x, by omega, by omega, rfl, by go_num, ⟨pw_below_drewN BW.out _⟩, ⟨pw_below_drewN BX.out _⟩, ⟨A4.out⟩⟩
    · have hltz : ¬ (kk : Int) < (s.size : Int) := by omega
      have A2 := A.out
      rw [List.drop_eq_nil_of_le (by omega)] at A2
      obtain rfl : h = r := Option.some.inj A2
      go_wp2
      go_ret
      exact ⟨rfl, BW.out⟩

end Go.Proofs.YtalionlkjdgciaaGreatDoor.PA
