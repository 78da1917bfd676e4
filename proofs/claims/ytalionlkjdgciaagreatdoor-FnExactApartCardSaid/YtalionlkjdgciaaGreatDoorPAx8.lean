-- Written by the session's program hprint.py, over the kit's print program. Lean checks it.
import Derived.Test.YtalionlkjdgciaaGreatDoorPAx0
import Derived.Test.YtalionlkjdgciaaGreatDoorPAx3
import Derived.Test.YtalionlkjdgciaaGreatDoorPAx5
import Derived.Test.YtalionlkjdgciaaGreatDoorPAx6
import Derived.Test.YtalionlkjdgciaaGreatDoorPAx7
namespace Go.Proofs.YtalionlkjdgciaaGreatDoor.PA
open Go.RowKit Go.Proofs.YtalionlkjdgciaaGreatDoorW.PrintWords Go.Proofs.YtalionlkjdgciaaGreatDoorW.PrintLast Go.Proofs.YtalionlkjdgciaaGreatDoorW.PrintMore
attribute [local go_sem] max2_int min2_int max_two min_two max_three min_three max_four min_four   -- for this text's walks alone
set_option linter.unusedVariables false
set_option linter.unusedSimpArgs false
set_option maxHeartbeats 8000000
set_option maxRecDepth 100000

/-! ### spec_l5One: function 86 -/
mutual
def spec_l5One.j0 : Nat → Bool → Int → ByteArray → ByteArray → ByteArray → List (S73) → List (S68) → List (S28) → ByteArray → Option (Bool)
 | 0, _, _, _, _, _, _, _, _, _ => none
 | k + 1, x56, x235000, x235001, x235002, x235003, x235004, x235005, x235006, x235007 => if x56 = true then (some false) else (spec_l5One.l0 k 0 x235000 x235001 x235002 x235003 x235004 x235005 x235006 x235007)
def spec_l5One.l0 : Nat → Int → Int → ByteArray → ByteArray → ByteArray → List (S73) → List (S68) → List (S28) → ByteArray → Option (Bool)
 | 0, _, _, _, _, _, _, _, _, _ => none
 | k + 1, x3, x235000, x235001, x235002, x235003, x235004, x235005, x235006, x235007 => if x3 < (x235005.length : Int) then (if 0 ≤ x3 then ((spec_l5AttrOk.f k ((rd_T68 x235005 x3).f0) ((rd_T68 x235005 x3).f1) ((rd_T68 x235005 x3).f2) ((rd_T68 x235005 x3).f3)).bind fun t242 => (if t242 = true then (if x3 > 0 then (if 0 ≤ (wrap64 (x3 - 1)) then (if (wrap64 (x3 - 1)) < (x235005.length : Int) then ((spec_l5Less.f ((rd_T68 x235005 (wrap64 (x3 - 1))).f0) ((rd_T68 x235005 (wrap64 (x3 - 1))).f1) ((rd_T68 x235005 (wrap64 (x3 - 1))).f2) ((rd_T68 x235005 (wrap64 (x3 - 1))).f3) ((rd_T68 x235005 x3).f0) ((rd_T68 x235005 x3).f1) ((rd_T68 x235005 x3).f2) ((rd_T68 x235005 x3).f3)).bind fun t245 => (if t245 = true then (spec_l5One.l0 k (wrap64 (x3 + 1)) x235000 x235001 x235002 x235003 x235004 x235005 x235006 x235007) else (some false))) else (none)) else (none)) else (spec_l5One.l0 k (wrap64 (x3 + 1)) x235000 x235001 x235002 x235003 x235004 x235005 x235006 x235007)) else (some false))) else (none)) else (some true)
end
def spec_l5One.f (k : Nat) (a0_0 : Int) (a0_1 : ByteArray) (a0_2 : ByteArray) (a0_3 : ByteArray) (l0_4 : List (S73)) (l0_5 : List (S68)) (l0_6 : List (S28)) (a0_7 : ByteArray) : Option (Bool) := if a0_0 = 1 then ((spec_l5Pre.f k a0_1).bind fun t235 => (if t235 = true then ((spec_PlainOk.f k a0_2).bind fun t236 => (if t236 = true then (if a0_7.toList = ([] : List UInt8) then (if a0_1.toList = ([] : List UInt8) then ((spec_TextOk.f k a0_3).bind fun t237 => (if t237 = true then (if (a0_3.size : Int) > 40 then (spec_l5One.j0 k true a0_0 a0_1 a0_2 a0_3 l0_4 l0_5 l0_6 a0_7) else ((spec_DeclsOk.f k l0_4).bind fun t238 => (if t238 = true then (spec_l5One.j0 k (decide ((l0_5.length : Int) > 5)) a0_0 a0_1 a0_2 a0_3 l0_4 l0_5 l0_6 a0_7) else (spec_l5One.j0 k true a0_0 a0_1 a0_2 a0_3 l0_4 l0_5 l0_6 a0_7)))) else (spec_l5One.j0 k true a0_0 a0_1 a0_2 a0_3 l0_4 l0_5 l0_6 a0_7))) else (if a0_3.toList = ([] : List UInt8) then (spec_l5One.j0 k true a0_0 a0_1 a0_2 a0_3 l0_4 l0_5 l0_6 a0_7) else ((spec_TextOk.f k a0_3).bind fun t239 => (if t239 = true then (if (a0_3.size : Int) > 40 then (spec_l5One.j0 k true a0_0 a0_1 a0_2 a0_3 l0_4 l0_5 l0_6 a0_7) else ((spec_DeclsOk.f k l0_4).bind fun t240 => (if t240 = true then (spec_l5One.j0 k (decide ((l0_5.length : Int) > 5)) a0_0 a0_1 a0_2 a0_3 l0_4 l0_5 l0_6 a0_7) else (spec_l5One.j0 k true a0_0 a0_1 a0_2 a0_3 l0_4 l0_5 l0_6 a0_7)))) else (spec_l5One.j0 k true a0_0 a0_1 a0_2 a0_3 l0_4 l0_5 l0_6 a0_7))))) else (spec_l5One.j0 k true a0_0 a0_1 a0_2 a0_3 l0_4 l0_5 l0_6 a0_7)) else (spec_l5One.j0 k true a0_0 a0_1 a0_2 a0_3 l0_4 l0_5 l0_6 a0_7))) else (spec_l5One.j0 k true a0_0 a0_1 a0_2 a0_3 l0_4 l0_5 l0_6 a0_7))) else (if a0_0 = 2 then ((spec_l5Bare.f a0_0 a0_1 a0_2 a0_3 l0_4 l0_5 l0_6 a0_7).bind fun t246 => (if t246 = true then (if a0_2.toList = ([] : List UInt8) then (if a0_7.toList = ([] : List UInt8) then (some false) else ((spec_TextOk.f k a0_7).bind fun t247 => (some t247))) else (some false)) else (some false))) else (if a0_0 = 3 then ((spec_l5Bare.f a0_0 a0_1 a0_2 a0_3 l0_4 l0_5 l0_6 a0_7).bind fun t248 => (if t248 = true then (if a0_2.toList = ([] : List UInt8) then ((spec_TextOk.f k a0_7).bind fun t249 => (if t249 = true then ((spec_l5Has.f k a0_7 (⟨#[45, 45]⟩ : ByteArray)).bind fun t250 => (if t250 = true then (some false) else ((spec_l5Has.f k a0_7 (⟨#[13]⟩ : ByteArray)).bind fun t251 => (if t251 = true then (some false) else (if a0_7.toList = ([] : List UInt8) then (some true) else (if 0 ≤ (wrap64 ((a0_7.size : Int) - 1)) then (if (wrap64 ((a0_7.size : Int) - 1)) < (a0_7.size : Int) then (some ((bt a0_7 (wrap64 ((a0_7.size : Int) - 1))) != 45)) else (none)) else (none))))))) else (some false))) else (some false)) else (some false))) else (if a0_0 = 4 then ((spec_l5Bare.f a0_0 a0_1 a0_2 a0_3 l0_4 l0_5 l0_6 a0_7).bind fun t252 => (if t252 = true then ((spec_PlainOk.f k a0_2).bind fun t253 => (if t253 = true then ((spec_l5Xml.f a0_2).bind fun t254 => (if t254 = true then (some false) else ((spec_TextOk.f k a0_7).bind fun t255 => (if t255 = true then ((spec_l5Has.f k a0_7 (⟨#[63, 62]⟩ : ByteArray)).bind fun t256 => (if t256 = true then (some false) else ((spec_l5Has.f k a0_7 (⟨#[13]⟩ : ByteArray)).bind fun t257 => (if t257 = true then (some false) else (if a0_7.toList = ([] : List UInt8) then (some true) else (if 0 < (a0_7.size : Int) then ((spec_IsBlank.f (wrap64 (bt a0_7 0))).bind fun t258 => (some (!t258))) else (none))))))) else (some false))))) else (some false))) else (some false))) else (some false))))
def spec_l5One.T8 : Bool × List (List Nat × List Nat) := (true, [([], []), ([0], [0]), ([], []), ([1, 2], [1, 2]), ([3], [3]), ([4], [4]), ([5], [5]), ([6, 5], [6]), ([7], [7]), ([8, 7], [7, 8]), ([9, 7, 7], [7, 9]), ([10], [10]), ([11, 10], [10, 11]), ([10], [10]), ([13, 10], [10, 13]), ([12, 14, 10], [10, 12, 14]), ([15, 10], [10, 15]), ([10], [10]), ([17, 10], [10, 17]), ([10], [10]), ([18, 19, 10], [10, 18, 19]), ([20, 10], [10, 20]), ([16, 21, 10, 10], [10, 16, 21]), ([22, 10], [10, 22]), ([10, 23, 7], [7, 10, 23]), ([7, 24], [7, 24])])
def spec_l5One.B8 : List Nat := [0, 1, 0, 7, 15, 31, 63, 127, 255, 511, 1023, 2047, 4095, 2047, 10239, 32767, 65535, 2047, 133119, 2047, 919551, 1968127, 4194303, 8388607, 16777215, 33554431]
theorem spec_l5One.tab8 : rtab .any (opsOf Tryz.f86 8) = spec_l5One.T8 := by kernel_rfl
theorem spec_l5One.bits8 : waitsOk spec_l5One.T8.2 spec_l5One.B8 = true := by kernel_rfl
theorem spec_l5One.calls_1 (k : Nat) (a0_0 : Int) (a0_1 : ByteArray) (a0_2 : ByteArray) (a0_3 : ByteArray) (A0_4 : Option Addr) (c0_4 : Nat) (l0_4 : List (S73)) (A0_5 : Option Addr) (c0_5 : Nat) (l0_5 : List (S68)) (A0_6 : Option Addr) (c0_6 : Nat) (l0_6 : List (S28)) (a0_7 : ByteArray) (r : Bool) (w : World) (hr0_4 : Kd.C k73 w A0_4 l0_4.length l0_4) (hc0_4 : l0_4.length ≤ c0_4) (hr0_5 : Kd.C k68 w A0_5 l0_5.length l0_5) (hc0_5 : l0_5.length ≤ c0_5) (hr0_6 : Kd.C k28 w A0_6 l0_6.length l0_6) (hc0_6 : l0_6.length ≤ c0_6) (c4 : a0_0 = 1) (h : spec_l5One.f k a0_0 a0_1 a0_2 a0_3 l0_4 l0_5 l0_6 a0_7 = some r) :
  Calls Tryz.prog 86 #[.agg #[.int .i64 a0_0, .string a0_1, .string a0_2, .string a0_3, .slice A0_4 l0_4.length c0_4, .slice A0_5 l0_5.length c0_5, .slice A0_6 l0_6.length c0_6, .string a0_7]] w fun e w' => e = .returned (.bool r) ∧ Below w.heap.size w w' := by
 have hu28 := Tryz.underlying28
 have hu68 := Tryz.underlying68
 have HR0_4 := Aside0.mk hr0_4
 have HC0_4 := Aside0.mk hc0_4
 clear hr0_4 hc0_4
 have HR0_5 := Aside0.mk hr0_5
 have HC0_5 := Aside0.mk hc0_5
 clear hr0_5 hc0_5
 have HR0_6 := Aside0.mk hr0_6
 have HC0_6 := Aside0.mk hc0_6
 clear hr0_6 hc0_6
 have HB := Aside0.mk (Below.refl w.heap.size w)
 have H : (if a0_0 = 1 then ((spec_l5Pre.f k a0_1).bind fun t235 => (if t235 = true then ((spec_PlainOk.f k a0_2).bind fun t236 => (if t236 = true then (if a0_7.toList = ([] : List UInt8) then (if a0_1.toList = ([] : List UInt8) then ((spec_TextOk.f k a0_3).bind fun t237 => (if t237 = true then (if (a0_3.size : Int) > 40 then (spec_l5One.j0 k true a0_0 a0_1 a0_2 a0_3 l0_4 l0_5 l0_6 a0_7) else ((spec_DeclsOk.f k l0_4).bind fun t238 => (if t238 = true then (spec_l5One.j0 k (decide ((l0_5.length : Int) > 5)) a0_0 a0_1 a0_2 a0_3 l0_4 l0_5 l0_6 a0_7) else (spec_l5One.j0 k true a0_0 a0_1 a0_2 a0_3 l0_4 l0_5 l0_6 a0_7)))) else (spec_l5One.j0 k true a0_0 a0_1 a0_2 a0_3 l0_4 l0_5 l0_6 a0_7))) else (if a0_3.toList = ([] : List UInt8) then (spec_l5One.j0 k true a0_0 a0_1 a0_2 a0_3 l0_4 l0_5 l0_6 a0_7) else ((spec_TextOk.f k a0_3).bind fun t239 => (if t239 = true then (if (a0_3.size : Int) > 40 then (spec_l5One.j0 k true a0_0 a0_1 a0_2 a0_3 l0_4 l0_5 l0_6 a0_7) else ((spec_DeclsOk.f k l0_4).bind fun t240 => (if t240 = true then (spec_l5One.j0 k (decide ((l0_5.length : Int) > 5)) a0_0 a0_1 a0_2 a0_3 l0_4 l0_5 l0_6 a0_7) else (spec_l5One.j0 k true a0_0 a0_1 a0_2 a0_3 l0_4 l0_5 l0_6 a0_7)))) else (spec_l5One.j0 k true a0_0 a0_1 a0_2 a0_3 l0_4 l0_5 l0_6 a0_7))))) else (spec_l5One.j0 k true a0_0 a0_1 a0_2 a0_3 l0_4 l0_5 l0_6 a0_7)) else (spec_l5One.j0 k true a0_0 a0_1 a0_2 a0_3 l0_4 l0_5 l0_6 a0_7))) else (spec_l5One.j0 k true a0_0 a0_1 a0_2 a0_3 l0_4 l0_5 l0_6 a0_7))) else (if a0_0 = 2 then ((spec_l5Bare.f a0_0 a0_1 a0_2 a0_3 l0_4 l0_5 l0_6 a0_7).bind fun t246 => (if t246 = true then (if a0_2.toList = ([] : List UInt8) then (if a0_7.toList = ([] : List UInt8) then (some false) else ((spec_TextOk.f k a0_7).bind fun t247 => (some t247))) else (some false)) else (some false))) else (if a0_0 = 3 then ((spec_l5Bare.f a0_0 a0_1 a0_2 a0_3 l0_4 l0_5 l0_6 a0_7).bind fun t248 => (if t248 = true then (if a0_2.toList = ([] : List UInt8) then ((spec_TextOk.f k a0_7).bind fun t249 => (if t249 = true then ((spec_l5Has.f k a0_7 (⟨#[45, 45]⟩ : ByteArray)).bind fun t250 => (if t250 = true then (some false) else ((spec_l5Has.f k a0_7 (⟨#[13]⟩ : ByteArray)).bind fun t251 => (if t251 = true then (some false) else (if a0_7.toList = ([] : List UInt8) then (some true) else (if 0 ≤ (wrap64 ((a0_7.size : Int) - 1)) then (if (wrap64 ((a0_7.size : Int) - 1)) < (a0_7.size : Int) then (some ((bt a0_7 (wrap64 ((a0_7.size : Int) - 1))) != 45)) else (none)) else (none))))))) else (some false))) else (some false)) else (some false))) else (if a0_0 = 4 then ((spec_l5Bare.f a0_0 a0_1 a0_2 a0_3 l0_4 l0_5 l0_6 a0_7).bind fun t252 => (if t252 = true then ((spec_PlainOk.f k a0_2).bind fun t253 => (if t253 = true then ((spec_l5Xml.f a0_2).bind fun t254 => (if t254 = true then (some false) else ((spec_TextOk.f k a0_7).bind fun t255 => (if t255 = true then ((spec_l5Has.f k a0_7 (⟨#[63, 62]⟩ : ByteArray)).bind fun t256 => (if t256 = true then (some false) else ((spec_l5Has.f k a0_7 (⟨#[13]⟩ : ByteArray)).bind fun t257 => (if t257 = true then (some false) else (if a0_7.toList = ([] : List UInt8) then (some true) else (if 0 < (a0_7.size : Int) then ((spec_IsBlank.f (wrap64 (bt a0_7 0))).bind fun t258 => (some (!t258))) else (none))))))) else (some false))))) else (some false))) else (some false))) else (some false))))) = some r := h
 clear h
 go_enter Tryz.func86, Tryz.ntmps86
 go_wp2_with (first | ((with_reducible refine gate_dst (N := 1) rfl ?_); (try (refine gate_guard (by rfl) ?_; dsimp only)); refine box_event ?hg (N := 1) ?hd (cs := #[.int .i64 a0_0, .string a0_1, .string a0_2, .string a0_3, .slice A0_4 l0_4.length c0_4, .slice A0_5 l0_5.length c0_5, .slice A0_6 l0_6.length c0_6, .string a0_7]) (t := 28) ?hr ?_; (case hd => rfl); (case hg => rfl); (case hr => first | (go_simp; done) | (go_simp; rfl)); intro gb234 hg w2 hbox hb; have BK234 := Aside0.mk (hbox); have GW234 := Aside0.mk ((by rw [hg]; exact (below_size hB) : w.heap.size ≤ gb234)); have GE234 := Aside0.mk ((by rw [hg]; exact (below_size hB) : w.heap.size ≤ gb234)); replace HB := Aside0.mk (below_step hB hb); clear hb hbox hg; obtain ⟨hcz3_0, hcz3_1, hcz3_2, hcz3_3, hcz3_4, hcz3_5, hcz3_6, hcz3_7⟩ := bc8 BK234.out; refine halt_ ?_; intro q_ hq_))
 obtain ⟨rfl⟩ := hq_
 rw [if_pos c4] at H
 obtain ⟨c4b0, c4b1⟩ := eqT c4
 clear c4
 have HC5 := Aside0.mk H
 clear H
 go_upto_region 3 with (fail)
 go_cut [56] (fun v56 wc => ∃ (kq : Nat) (x56_4 : Bool), v56 = .bool x56_4 ∧ Aside0 (spec_l5One.j0 kq x56_4 a0_0 a0_1 a0_2 a0_3 l0_4 l0_5 l0_6 a0_7 = some r) ∧ Aside0 (kq ≤ k) ∧ Aside0 (wc.heap[gb234]? = some (.cells #[.int .i64 a0_0, .string a0_1, .string a0_2, .string a0_3, (.slice A0_4 l0_4.length c0_4), (.slice A0_5 l0_5.length c0_5), (.slice A0_6 l0_6.length c0_6), .string a0_7] 28 (0, 0))) ∧ Aside0 (Below w.heap.size w wc))
 case first =>
  have H := HC5.out
  clear HC5
  replace H := Option.bind_eq_some_iff.mp H
  obtain ⟨t235, A60, H⟩ := H
  try dsimp only at H
  have A6 := Aside0.mk A60
  clear A60
  obtain ⟨hcz7_0, hcz7_1, hcz7_2, hcz7_3, hcz7_4, hcz7_5, hcz7_6, hcz7_7⟩ := bc8 BK234.out
  go_wp2_with (first | ((with_reducible refine gate_callee (f := 118) rfl ?_); refine goesL_ (some 10) rfl rfl Tryz.func118 (by kernel_rfl) rfl #[.string a0_1] rfl mA ?_; (with_reducible refine (spec_l5Pre.calls k a0_1 t235 _ A6.out).mono ?_); rintro e w8 ⟨rfl, hb⟩; refine ⟨_, rfl, ?_⟩; replace BK234 := Aside0.mk (blk_below (g := gb234) (by (with_reducible repeat (first | refine bN ?_ _|refine bD ?_|refine bA ?_ _)); exact BK234.out) hb); replace HB := Aside0.mk (below_step hB hb); (try clear hb); (try clear hb2); (try clear hk); (try clear hi); refine halt_ ?_; intro q_ hq_))
  obtain ⟨rfl⟩ := hq_
  by_cases c9 : t235 = true
  ·subst c9
   rw [if_pos rfl] at H
   replace H := Option.bind_eq_some_iff.mp H
   obtain ⟨t236, A100, H⟩ := H
   try dsimp only at H
   have A10 := Aside0.mk A100
   clear A100
   obtain ⟨hcz11_0, hcz11_1, hcz11_2, hcz11_3, hcz11_4, hcz11_5, hcz11_6, hcz11_7⟩ := bc8 BK234.out
   go_wp2_with (first | (go_at_call 119; (with_reducible refine (spec_PlainOk.calls k a0_2 t236 _ A10.out).mono ?_); rintro e w12 ⟨rfl, hb⟩; replace BK234 := Aside0.mk (blk_below (g := gb234) (by (with_reducible repeat (first | refine bN ?_ _|refine bD ?_|refine bA ?_ _)); exact BK234.out) hb); replace HB := Aside0.mk (below_step hB hb); (try clear hb); (try clear hb2); (try clear hk); (try clear hi); refine halt_ ?_; intro q_ hq_))
   obtain ⟨rfl⟩ := hq_
   by_cases c13 : t236 = true
   ·subst c13
    rw [if_pos rfl] at H
    by_cases c14 : a0_7.toList = ([] : List UInt8)
    ·rw [if_pos c14] at H
     obtain ⟨c14b0, c14b1⟩ := eqT c14
     clear c14
     (first | rw [c14b0] | (simp only [i64_w, i32_w]; rw [c14b0]) | skip)
     by_cases c15 : a0_1.toList = ([] : List UInt8)
     ·rw [if_pos c15] at H
      obtain ⟨c15b0, c15b1⟩ := eqT c15
      clear c15
      replace H := Option.bind_eq_some_iff.mp H
      obtain ⟨t237, A160, H⟩ := H
      try dsimp only at H
      have A16 := Aside0.mk A160
      clear A160
      obtain ⟨hcz17_0, hcz17_1, hcz17_2, hcz17_3, hcz17_4, hcz17_5, hcz17_6, hcz17_7⟩ := bc8 BK234.out
      go_wp2_with (first | (go_at_call 120; (with_reducible refine (spec_TextOk.calls k a0_3 t237 _ A16.out).mono ?_); rintro e w' ⟨rfl, ⟨nd, rfl⟩⟩; refine halt_ ?_; intro q_ hq_))
      obtain ⟨rfl⟩ := hq_
      by_cases c18 : t237 = true
      ·subst c18
       rw [if_pos rfl] at H
       by_cases c19 : (a0_3.size : Int) > 40
       ·rw [if_pos c19] at H
        have c19b0 : decide (40 < (a0_3.size : Int)) = true := decide_eq_true c19
        have c19b1 : decide (40 < a0_3.size) = true := decide_eq_true (by omega)
        clear c19
        have H' := Aside0.mk H
        clear H
        obtain ⟨hcz20_0, hcz20_1, hcz20_2, hcz20_3, hcz20_4, hcz20_5, hcz20_6, hcz20_7⟩ := bc8 BK234.out
        go_wp2
        go_meet
        case rel => exact ⟨_, (true), rG, H', ⟨by first | omega | exact Nat.le_refl _⟩, ⟨by (with_reducible repeat (first | refine bN ?_ _|refine bD ?_|refine bA ?_ _)); exact BK234.out⟩, ⟨hB⟩⟩
       ·rw [if_neg c19] at H
        have c19b0 : decide (40 < (a0_3.size : Int)) = false := decide_eq_false c19
        have c19b1 : decide (40 < a0_3.size) = false := decide_eq_false (by omega)
        clear c19
        replace H := Option.bind_eq_some_iff.mp H
        obtain ⟨t238, A210, H⟩ := H
        try dsimp only at H
        have A21 := Aside0.mk A210
        clear A210
        obtain ⟨hcz22_0, hcz22_1, hcz22_2, hcz22_3, hcz22_4, hcz22_5, hcz22_6, hcz22_7⟩ := bc8 BK234.out
        go_wp2_with (first | (go_at_call 121; (with_reducible refine (spec_DeclsOk.calls k _ _ l0_4 t238 _ ?side1 ?side2 A21.out).mono ?_); (case side1 => repeat (first | exact (Kd.C_below HR0_4.out HB.out) | (with_reducible refine Kd.C_alloc ?_ _) | (with_reducible refine Kd.C_drewN ?_ _) | (with_reducible refine Kd.C_drew ?_))); (case side2 => exact HC0_4.out); rintro e w23 ⟨rfl, hb⟩; replace BK234 := Aside0.mk (blk_below (g := gb234) (by (with_reducible repeat (first | refine bN ?_ _|refine bD ?_|refine bA ?_ _)); exact BK234.out) hb); replace HB := Aside0.mk (below_step hB hb); (try clear hb); (try clear hb2); (try clear hk); (try clear hi); refine halt_ ?_; intro q_ hq_))
        obtain ⟨rfl⟩ := hq_
        by_cases c24 : t238 = true
        ·subst c24
         rw [if_pos rfl] at H
         have H' := Aside0.mk H
         clear H
         obtain ⟨hcz25_0, hcz25_1, hcz25_2, hcz25_3, hcz25_4, hcz25_5, hcz25_6, hcz25_7⟩ := bc8 BK234.out
         go_wp2
         go_meet
         case rel => exact ⟨_, (decide ((l0_5.length : Int) > 5)), rG, H', ⟨by first | omega | exact Nat.le_refl _⟩, ⟨by (with_reducible repeat (first | refine bN ?_ _|refine bD ?_|refine bA ?_ _)); exact BK234.out⟩, ⟨hB⟩⟩
        ·replace c24 := Bool.eq_false_iff.mpr c24
         subst c24
         rw [if_neg (show ¬ (false = true) by decide)] at H
         have H' := Aside0.mk H
         clear H
         go_wp2
         go_meet
         case rel => exact ⟨_, (true), rG, H', ⟨by first | omega | exact Nat.le_refl _⟩, ⟨by (with_reducible repeat (first | refine bN ?_ _|refine bD ?_|refine bA ?_ _)); exact BK234.out⟩, ⟨hB⟩⟩
      ·replace c18 := Bool.eq_false_iff.mpr c18
       subst c18
       rw [if_neg (show ¬ (false = true) by decide)] at H
       have H' := Aside0.mk H
       clear H
       go_wp2
       go_meet
       case rel => exact ⟨_, (true), rG, H', ⟨by first | omega | exact Nat.le_refl _⟩, ⟨by (with_reducible repeat (first | refine bN ?_ _|refine bD ?_|refine bA ?_ _)); exact BK234.out⟩, ⟨hB⟩⟩
     ·rw [if_neg c15] at H
      obtain ⟨c15b0, c15b1⟩ := eqF c15
      by_cases c26 : a0_3.toList = ([] : List UInt8)
      ·rw [if_pos c26] at H
       obtain ⟨c26b0, c26b1⟩ := eqT c26
       clear c26
       have H' := Aside0.mk H
       clear H
       obtain ⟨hcz27_0, hcz27_1, hcz27_2, hcz27_3, hcz27_4, hcz27_5, hcz27_6, hcz27_7⟩ := bc8 BK234.out
       go_wp2
       go_meet
       case rel => exact ⟨_, (true), rG, H', ⟨by first | omega | exact Nat.le_refl _⟩, ⟨by (with_reducible repeat (first | refine bN ?_ _|refine bD ?_|refine bA ?_ _)); exact BK234.out⟩, ⟨hB⟩⟩
      ·rw [if_neg c26] at H
       obtain ⟨c26b0, c26b1⟩ := eqF c26
       replace H := Option.bind_eq_some_iff.mp H
       obtain ⟨t239, A280, H⟩ := H
       try dsimp only at H
       have A28 := Aside0.mk A280
       clear A280
       obtain ⟨hcz29_0, hcz29_1, hcz29_2, hcz29_3, hcz29_4, hcz29_5, hcz29_6, hcz29_7⟩ := bc8 BK234.out
       go_wp2_with (first | (go_at_call 120; (with_reducible refine (spec_TextOk.calls k a0_3 t239 _ A28.out).mono ?_); rintro e w' ⟨rfl, ⟨nd, rfl⟩⟩; refine halt_ ?_; intro q_ hq_))
       obtain ⟨rfl⟩ := hq_
       by_cases c30 : t239 = true
       ·subst c30
        rw [if_pos rfl] at H
        by_cases c31 : (a0_3.size : Int) > 40
        ·rw [if_pos c31] at H
         have c31b0 : decide (40 < (a0_3.size : Int)) = true := decide_eq_true c31
         have c31b1 : decide (40 < a0_3.size) = true := decide_eq_true (by omega)
         clear c31
         have H' := Aside0.mk H
         clear H
         obtain ⟨hcz32_0, hcz32_1, hcz32_2, hcz32_3, hcz32_4, hcz32_5, hcz32_6, hcz32_7⟩ := bc8 BK234.out
         go_wp2
         go_meet
         case rel => exact ⟨_, (true), rG, H', ⟨by first | omega | exact Nat.le_refl _⟩, ⟨by (with_reducible repeat (first | refine bN ?_ _|refine bD ?_|refine bA ?_ _)); exact BK234.out⟩, ⟨hB⟩⟩
        ·rw [if_neg c31] at H
         have c31b0 : decide (40 < (a0_3.size : Int)) = false := decide_eq_false c31
         have c31b1 : decide (40 < a0_3.size) = false := decide_eq_false (by omega)
         clear c31
         replace H := Option.bind_eq_some_iff.mp H
         obtain ⟨t240, A330, H⟩ := H
         try dsimp only at H
         have A33 := Aside0.mk A330
         clear A330
         obtain ⟨hcz34_0, hcz34_1, hcz34_2, hcz34_3, hcz34_4, hcz34_5, hcz34_6, hcz34_7⟩ := bc8 BK234.out
         go_wp2_with (first | (go_at_call 121; (with_reducible refine (spec_DeclsOk.calls k _ _ l0_4 t240 _ ?side1 ?side2 A33.out).mono ?_); (case side1 => repeat (first | exact (Kd.C_below HR0_4.out HB.out) | (with_reducible refine Kd.C_alloc ?_ _) | (with_reducible refine Kd.C_drewN ?_ _) | (with_reducible refine Kd.C_drew ?_))); (case side2 => exact HC0_4.out); rintro e w35 ⟨rfl, hb⟩; replace BK234 := Aside0.mk (blk_below (g := gb234) (by (with_reducible repeat (first | refine bN ?_ _|refine bD ?_|refine bA ?_ _)); exact BK234.out) hb); replace HB := Aside0.mk (below_step hB hb); (try clear hb); (try clear hb2); (try clear hk); (try clear hi); refine halt_ ?_; intro q_ hq_))
         obtain ⟨rfl⟩ := hq_
         by_cases c36 : t240 = true
         ·subst c36
          rw [if_pos rfl] at H
          have H' := Aside0.mk H
          clear H
          obtain ⟨hcz37_0, hcz37_1, hcz37_2, hcz37_3, hcz37_4, hcz37_5, hcz37_6, hcz37_7⟩ := bc8 BK234.out
          go_wp2
          go_meet
          case rel => exact ⟨_, (decide ((l0_5.length : Int) > 5)), rG, H', ⟨by first | omega | exact Nat.le_refl _⟩, ⟨by (with_reducible repeat (first | refine bN ?_ _|refine bD ?_|refine bA ?_ _)); exact BK234.out⟩, ⟨hB⟩⟩
         ·replace c36 := Bool.eq_false_iff.mpr c36
          subst c36
          rw [if_neg (show ¬ (false = true) by decide)] at H
          have H' := Aside0.mk H
          clear H
          go_wp2
          go_meet
          case rel => exact ⟨_, (true), rG, H', ⟨by first | omega | exact Nat.le_refl _⟩, ⟨by (with_reducible repeat (first | refine bN ?_ _|refine bD ?_|refine bA ?_ _)); exact BK234.out⟩, ⟨hB⟩⟩
       ·replace c30 := Bool.eq_false_iff.mpr c30
        subst c30
        rw [if_neg (show ¬ (false = true) by decide)] at H
        have H' := Aside0.mk H
        clear H
        go_wp2
        go_meet
        case rel => exact ⟨_, (true), rG, H', ⟨by first | omega | exact Nat.le_refl _⟩, ⟨by (with_reducible repeat (first | refine bN ?_ _|refine bD ?_|refine bA ?_ _)); exact BK234.out⟩, ⟨hB⟩⟩
    ·rw [if_neg c14] at H
     obtain ⟨c14b0, c14b1⟩ := eqF c14
     (first | rw [c14b0] | (simp only [i64_w, i32_w]; rw [c14b0]) | skip)
     have H' := Aside0.mk H
     clear H
     obtain ⟨hcz38_0, hcz38_1, hcz38_2, hcz38_3, hcz38_4, hcz38_5, hcz38_6, hcz38_7⟩ := bc8 BK234.out
     go_wp2
     go_meet
     case rel => exact ⟨_, (true), rG, H', ⟨by first | omega | exact Nat.le_refl _⟩, ⟨by (with_reducible repeat (first | refine bN ?_ _|refine bD ?_|refine bA ?_ _)); exact BK234.out⟩, ⟨hB⟩⟩
   ·replace c13 := Bool.eq_false_iff.mpr c13
    subst c13
    rw [if_neg (show ¬ (false = true) by decide)] at H
    have H' := Aside0.mk H
    clear H
    go_wp2
    go_meet
    case rel => exact ⟨_, (true), rG, H', ⟨by first | omega | exact Nat.le_refl _⟩, ⟨by (with_reducible repeat (first | refine bN ?_ _|refine bD ?_|refine bA ?_ _)); exact BK234.out⟩, ⟨hB⟩⟩
  ·replace c9 := Bool.eq_false_iff.mpr c9
   subst c9
   rw [if_neg (show ¬ (false = true) by decide)] at H
   have H' := Aside0.mk H
   clear H
   go_wp2
   go_meet
   case rel => exact ⟨_, (true), rG, H', ⟨by first | omega | exact Nat.le_refl _⟩, ⟨by (with_reducible repeat (first | refine bN ?_ _|refine bD ?_|refine bA ?_ _)); exact BK234.out⟩, ⟨hB⟩⟩
 case rest =>
  clear HC5
  try clear c4; try clear c4b1; try clear c4b0
  try clear hcz3_0 hcz3_1 hcz3_2 hcz3_3 hcz3_4 hcz3_5 hcz3_6 hcz3_7
  obtain ⟨kq, x56_4, rfl, HA, HJ4, BK234, HB⟩ := hcut
  cases kq with
  | zero => exact absurd HA.out (by simp [spec_l5One.j0])
  | succ kj4 =>
   have H := HA.out
   clear HA
   simp only [spec_l5One.j0] at H
   by_cases c39 : x56_4 = true
   ·subst c39
    rw [if_pos rfl] at H
    obtain rfl := Option.some.inj H
    go_wp2
    go_ret
    exact ⟨rE, hB⟩
   ·replace c39 := Bool.eq_false_iff.mpr c39
    subst c39
    rw [if_neg (show ¬ (false = true) by decide)] at H
    have H' := Aside0.mk H
    clear H
    go_wp2
    go_loopg [3] kj4 (fun kq v3 w' => ∃ (x3_2 : Int), v3 = .int .i64 x3_2 ∧ Aside0 (spec_l5One.l0 kq x3_2 a0_0 a0_1 a0_2 a0_3 l0_4 l0_5 l0_6 a0_7 = some r) ∧ Aside0 (kq ≤ kj4) ∧ Aside0 (w'.heap[gb234]? = some (.cells #[.int .i64 a0_0, .string a0_1, .string a0_2, .string a0_3, (.slice A0_4 l0_4.length c0_4), (.slice A0_5 l0_5.length c0_5), (.slice A0_6 l0_6.length c0_6), .string a0_7] 28 (0, 0))) ∧ Aside0 (Below w.heap.size w w'))
    case atStart => exact ⟨(0), rG, H', ⟨Nat.le_refl _⟩, ⟨by (with_reducible repeat (first | refine bN ?_ _|refine bD ?_|refine bA ?_ _)); exact BK234.out⟩, ⟨hB⟩⟩
    case round =>
     clear H'
     try clear c39; try clear c4; try clear c4b1; try clear c4b0
     try clear hcz3_0 hcz3_1 hcz3_2 hcz3_3 hcz3_4 hcz3_5 hcz3_6 hcz3_7
     obtain ⟨x3_2, rfl, HA, HK2, BK234, HB⟩ := hrel
     cases gk with
     | zero => exact absurd HA.out (by simp [spec_l5One.l0])
     | succ k2 =>
      have H := HA.out
      clear HA
      simp only [spec_l5One.l0] at H
      by_cases c40 : x3_2 < (l0_5.length : Int)
      ·rw [if_pos c40] at H
       have c40b0 : decide (x3_2 < (l0_5.length : Int)) = true := decide_eq_true c40
       clear c40
       obtain ⟨c41, H⟩ := if_som H
       have c41b0 : decide (0 ≤ x3_2) = true := decide_eq_true c41
       clear c41
       replace H := Option.bind_eq_some_iff.mp H
       obtain ⟨t242, A420, H⟩ := H
       try dsimp only at H
       have A42 := Aside0.mk A420
       clear A420
       by_cases c43 : t242 = true
       ·subst c43
        rw [if_pos rfl] at H
        by_cases c44 : x3_2 > 0
        ·rw [if_pos c44] at H
         have c44b0 : decide (0 < x3_2) = true := decide_eq_true c44
         clear c44
         obtain ⟨ji45, hji45⟩ : ∃ j_ : Int, (wrap64 (x3_2 - 1)) = j_ := ⟨_, rfl⟩
         replace H : (if 0 ≤ (ji45) then (if (ji45) < (l0_5.length : Int) then ((spec_l5Less.f ((rd_T68 l0_5 (ji45)).f0) ((rd_T68 l0_5 (ji45)).f1) ((rd_T68 l0_5 (ji45)).f2) ((rd_T68 l0_5 (ji45)).f3) ((rd_T68 l0_5 x3_2).f0) ((rd_T68 l0_5 x3_2).f1) ((rd_T68 l0_5 x3_2).f2) ((rd_T68 l0_5 x3_2).f3)).bind fun t245 => (if t245 = true then (spec_l5One.l0 k2 (wrap64 (x3_2 + 1)) a0_0 a0_1 a0_2 a0_3 l0_4 l0_5 l0_6 a0_7) else (some false))) else (none)) else (none)) = some r := by first | (rw [hji45] at H; exact H) | (simp only [hji45] at H ⊢; exact H)
         (try rw [hji45] at A42)
         have hji45w : (IntKind.i64.wrap (x3_2 - 1)) = ji45 := (i64_w _).trans hji45
         obtain ⟨c46, H⟩ := if_som H
         have c46b0 : decide (0 ≤ (ji45)) = true := decide_eq_true c46
         clear c46
         obtain ⟨c47, H⟩ := if_som H
         have c47b0 : decide ((ji45) < (l0_5.length : Int)) = true := decide_eq_true c47
         clear c47
         replace H := Option.bind_eq_some_iff.mp H
         obtain ⟨t245, A480, H⟩ := H
         try dsimp only at H
         have A48 := Aside0.mk A480
         clear A480
         obtain ⟨hcz49_0, hcz49_1, hcz49_2, hcz49_3, hcz49_4, hcz49_5, hcz49_6, hcz49_7⟩ := bc8 BK234.out
         try go_wp2
         replace BK234 := Aside0.mk (blk_drew BK234.out)
         replace HB := Aside0.mk (below_drew1 HB.out)
         have p241 : 0 ≤ (x3_2 : Int) := odt
         have q241 : x3_2 < (l0_5.length : Int) := odt
         obtain ⟨ad241, e241, hx241_0, hx241_1, hx241_2, hx241_3⟩ := at_T68 HR0_5.out x3_2 p241 q241
         have hw241_3 := hx241_3
         have hw241_2 := hx241_2
         have hw241_1 := hx241_1
         have hw241_0 := hx241_0
         cases e241
         replace hx241_0 := pw_cell_below HB.out hx241_0
         replace hx241_1 := pw_cell_below HB.out hx241_1
         replace hx241_2 := pw_cell_below HB.out hx241_2
         replace hx241_3 := pw_cell_below HB.out hx241_3
         replace p241 := eq_true p241
         replace q241 := eq_true q241
         have p243 : 0 ≤ ((ji45) : Int) := odt
         have q243 : (ji45) < (l0_5.length : Int) := odt
         obtain ⟨ad243, e243, hx243_0, hx243_1, hx243_2, hx243_3⟩ := at_T68 HR0_5.out (ji45) p243 q243
         have hw243_3 := hx243_3
         have hw243_2 := hx243_2
         have hw243_1 := hx243_1
         have hw243_0 := hx243_0
         obtain rfl : ad241 = ad243 := (by injection e243)
         replace hx243_0 := pw_cell_below HB.out hx243_0
         replace hx243_1 := pw_cell_below HB.out hx243_1
         replace hx243_2 := pw_cell_below HB.out hx243_2
         replace hx243_3 := pw_cell_below HB.out hx243_3
         replace p243 := eq_true p243
         replace q243 := eq_true q243
         have p244 : 0 ≤ (x3_2 : Int) := odt
         have q244 : x3_2 < (l0_5.length : Int) := odt
         obtain ⟨ad244, e244, hx244_0, hx244_1, hx244_2, hx244_3⟩ := at_T68 HR0_5.out x3_2 p244 q244
         have hw244_3 := hx244_3
         have hw244_2 := hx244_2
         have hw244_1 := hx244_1
         have hw244_0 := hx244_0
         obtain rfl : ad241 = ad244 := (by injection e244)
         replace hx244_0 := pw_cell_below HB.out hx244_0
         replace hx244_1 := pw_cell_below HB.out hx244_1
         replace hx244_2 := pw_cell_below HB.out hx244_2
         replace hx244_3 := pw_cell_below HB.out hx244_3
         replace p244 := eq_true p244
         replace q244 := eq_true q244
         refine start_ (n := 26) (S := fun w' => w'.cell? ⟨gb234, 0, none⟩ = some (.int .i64 a0_0) ∧ w'.cell? ⟨gb234, 1, none⟩ = some (.string a0_1) ∧ w'.cell? ⟨gb234, 2, none⟩ = some (.string a0_2) ∧ w'.cell? ⟨gb234, 3, none⟩ = some (.string a0_3) ∧ w'.cell? ⟨gb234, 4, none⟩ = some (.slice A0_4 l0_4.length c0_4) ∧ w'.cell? ⟨gb234, 5, none⟩ = some (.slice (some ad241) l0_5.length c0_5) ∧ w'.cell? ⟨gb234, 6, none⟩ = some (.slice A0_6 l0_6.length c0_6) ∧ w'.cell? ⟨gb234, 7, none⟩ = some (.string a0_7) ∧ w'.cell? (ad241.add ((x3_2).toNat * 4)) = some (.string ((rd_T68 l0_5 x3_2).f0)) ∧ w'.cell? ⟨(ad241.add ((x3_2).toNat * 4)).block, (ad241.add ((x3_2).toNat * 4)).off + 1, none⟩ = some (.string ((rd_T68 l0_5 x3_2).f1)) ∧ w'.cell? ⟨(ad241.add ((x3_2).toNat * 4)).block, (ad241.add ((x3_2).toNat * 4)).off + 2, none⟩ = some (.string ((rd_T68 l0_5 x3_2).f2)) ∧ w'.cell? ⟨(ad241.add ((x3_2).toNat * 4)).block, (ad241.add ((x3_2).toNat * 4)).off + 3, none⟩ = some (.string ((rd_T68 l0_5 x3_2).f3)) ∧ w'.cell? (ad241.add (((ji45)).toNat * 4)) = some (.string ((rd_T68 l0_5 (ji45)).f0)) ∧ w'.cell? ⟨(ad241.add (((ji45)).toNat * 4)).block, (ad241.add (((ji45)).toNat * 4)).off + 1, none⟩ = some (.string ((rd_T68 l0_5 (ji45)).f1)) ∧ w'.cell? ⟨(ad241.add (((ji45)).toNat * 4)).block, (ad241.add (((ji45)).toNat * 4)).off + 2, none⟩ = some (.string ((rd_T68 l0_5 (ji45)).f2)) ∧ w'.cell? ⟨(ad241.add (((ji45)).toNat * 4)).block, (ad241.add (((ji45)).toNat * 4)).off + 3, none⟩ = some (.string ((rd_T68 l0_5 (ji45)).f3)) ∧ w'.cell? (ad241.add ((x3_2).toNat * 4)) = some (.string ((rd_T68 l0_5 x3_2).f0)) ∧ w'.cell? ⟨(ad241.add ((x3_2).toNat * 4)).block, (ad241.add ((x3_2).toNat * 4)).off + 1, none⟩ = some (.string ((rd_T68 l0_5 x3_2).f1)) ∧ w'.cell? ⟨(ad241.add ((x3_2).toNat * 4)).block, (ad241.add ((x3_2).toNat * 4)).off + 2, none⟩ = some (.string ((rd_T68 l0_5 x3_2).f2)) ∧ w'.cell? ⟨(ad241.add ((x3_2).toNat * 4)).block, (ad241.add ((x3_2).toNat * 4)).off + 3, none⟩ = some (.string ((rd_T68 l0_5 x3_2).f3))) (ds := []) #[false, false, false, false, false, false, false, false, false, false, false, false, false, false, false, false, false, false, false, false, false, false, false, false, false, false] (by kernel_rfl) rfl rfl ⟨(blk_cell BK234.out 0).trans rfl, (blk_cell BK234.out 1).trans rfl, (blk_cell BK234.out 2).trans rfl, (blk_cell BK234.out 3).trans rfl, (blk_cell BK234.out 4).trans rfl, (blk_cell BK234.out 5).trans rfl, (blk_cell BK234.out 6).trans rfl, (blk_cell BK234.out 7).trans rfl, (pw_cell_below HB.out hw241_0), (pw_cell_below HB.out hw241_1), (pw_cell_below HB.out hw241_2), (pw_cell_below HB.out hw241_3), (pw_cell_below HB.out hw243_0), (pw_cell_below HB.out hw243_1), (pw_cell_below HB.out hw243_2), (pw_cell_below HB.out hw243_3), (pw_cell_below HB.out hw244_0), (pw_cell_below HB.out hw244_1), (pw_cell_below HB.out hw244_2), (pw_cell_below HB.out hw244_3)⟩ (fun hHeld => ?_); refine with_tabW spec_l5One.tab8 spec_l5One.bits8 (fun HT_ HW_ => ?_)
         generalize wr.drew = w50 at BK234 HB hx241_0 hx241_1 hx241_2 hx241_3 hx243_0 hx243_1 hx243_2 hx243_3 hx244_0 hx244_1 hx244_2 hx244_3 hHeld ⊢
         refine pU 0 64 (tf 1 25) ?_
         refine pU 2 66 #[true, false, true, false, false, false, false, false, false, false, false, false, false, false, false, false, false, false, false, false, false, false, false, false, false, false] ?_
         refine take_ (i := 1) (N := some 65) (v := ?_) (a' := ?_) (tf 3 23) rfl rfl (take_ofW HT_.out HW_.out (by kernel_rfl)) (fun _ _ _ h => h) (Or.inl ⟨by rfl, ?_⟩) hHeld ?_ ?_
         rotate_left
         ·rintro w' ⟨s0, s1, s2, s3, s4, s5, s6, s7, s8, s9, s10, s11, s12, s13, s14, s15, s16, s17, s18, s19⟩
          go_simp
          with_reducible rfl
         rotate_left
         ·simp only [Act.put, sT, sZ, sS, i64_w, i32_w]
          rfl
         refine pU 3 67 (tf 4 22) ?_
         refine take_ (i := 4) (N := some 68) (v := ?_) (a' := ?_) (tf 5 21) rfl rfl (take_ofW HT_.out HW_.out (by kernel_rfl)) (fun _ _ _ h => h) (Or.inl ⟨by rfl, ?_⟩) hHeld ?_ ?_
         rotate_left
         ·rintro w' ⟨s0, s1, s2, s3, s4, s5, s6, s7, s8, s9, s10, s11, s12, s13, s14, s15, s16, s17, s18, s19⟩
          go_simp
          with_reducible rfl
         rotate_left
         ·simp only [Act.put, sT, sZ, sS, i64_w, i32_w]
          rfl
         refine one_ (i := 5) (N := some 69) (tf 6 20) rfl rfl (one_of HT_.out (by kernel_rfl)) (by decide) (fun K hK => ?_)
         refine goes_ Tryz.func122 (by kernel_rfl) rfl #[.agg #[.string ((rd_T68 l0_5 x3_2).f0), .string ((rd_T68 l0_5 x3_2).f1), .string ((rd_T68 l0_5 x3_2).f2), .string ((rd_T68 l0_5 x3_2).f3)]] (by rfl) rfl rfl mA ?_
         with_reducible refine (spec_l5AttrOk.calls k2 ((rd_T68 l0_5 x3_2).f0) ((rd_T68 l0_5 x3_2).f1) ((rd_T68 l0_5 x3_2).f2) ((rd_T68 l0_5 x3_2).f3) true _ A42.out).mono ?_
         rintro e w51 ⟨rfl, hb⟩
         refine ⟨_, rfl, ?_⟩
         replace BK234 := Aside0.mk (blk_below (g := gb234) (by (with_reducible repeat (first | refine bN ?_ _|refine bD ?_|refine bA ?_ _)); exact BK234.out) hb)
         replace HB := Aside0.mk (below_step hB hb)
         (try clear hb)
         (try clear hb2)
         (try clear hk)
         (try clear hi)
         refine hK.out _ _ ⟨(blk_cell BK234.out 0).trans rfl, (blk_cell BK234.out 1).trans rfl, (blk_cell BK234.out 2).trans rfl, (blk_cell BK234.out 3).trans rfl, (blk_cell BK234.out 4).trans rfl, (blk_cell BK234.out 5).trans rfl, (blk_cell BK234.out 6).trans rfl, (blk_cell BK234.out 7).trans rfl, (pw_cell_below HB.out hw241_0), (pw_cell_below HB.out hw241_1), (pw_cell_below HB.out hw241_2), (pw_cell_below HB.out hw241_3), (pw_cell_below HB.out hw243_0), (pw_cell_below HB.out hw243_1), (pw_cell_below HB.out hw243_2), (pw_cell_below HB.out hw243_3), (pw_cell_below HB.out hw244_0), (pw_cell_below HB.out hw244_1), (pw_cell_below HB.out hw244_2), (pw_cell_below HB.out hw244_3)⟩ (fun hHeld => ?_)
         clear hK K
         refine norm_ (a' := ?_) ?_ ?_
         rotate_left
         ·show Act.put _ (some 69) _ = _
          simp only [Act.put, sT, sZ, sS, i64_w, i32_w]
          rfl
         refine pU 6 70 (tf 7 19) ?_
         refine pU 7 71 (tf 8 18) ?_
         refine pU 8 72 (tf 9 17) ?_
         refine pU 9 73 (tf 10 16) ?_
         refine pU 10 74 (tf 11 15) ?_
         refine pU 11 75 (tf 12 14) ?_
         refine pU 13 77 #[true, true, true, true, true, true, true, true, true, true, true, true, false, true, false, false, false, false, false, false, false, false, false, false, false, false] ?_
         refine pU 14 78 #[true, true, true, true, true, true, true, true, true, true, true, true, false, true, true, false, false, false, false, false, false, false, false, false, false, false] ?_
         refine pU 17 81 #[true, true, true, true, true, true, true, true, true, true, true, true, false, true, true, false, false, true, false, false, false, false, false, false, false, false] ?_
         refine pU 19 83 #[true, true, true, true, true, true, true, true, true, true, true, true, false, true, true, false, false, true, false, true, false, false, false, false, false, false] ?_
         refine take_ (i := 12) (N := some 76) (v := ?_) (a' := ?_) #[true, true, true, true, true, true, true, true, true, true, true, true, true, true, true, false, false, true, false, true, false, false, false, false, false, false] rfl rfl (take_ofW HT_.out HW_.out (by kernel_rfl)) (fun _ _ _ h => h) (Or.inl ⟨by rfl, ?_⟩) hHeld ?_ ?_
         rotate_left
         ·rintro w' ⟨s0, s1, s2, s3, s4, s5, s6, s7, s8, s9, s10, s11, s12, s13, s14, s15, s16, s17, s18, s19⟩
          go_simp
          with_reducible rfl
         rotate_left
         ·simp only [Act.put, sT, sZ, sS, i64_w, i32_w]
          rfl
         refine pU 15 79 #[true, true, true, true, true, true, true, true, true, true, true, true, true, true, true, true, false, true, false, true, false, false, false, false, false, false] ?_
         refine take_ (i := 16) (N := some 80) (v := ?_) (a' := ?_) #[true, true, true, true, true, true, true, true, true, true, true, true, true, true, true, true, true, true, false, true, false, false, false, false, false, false] rfl rfl (take_ofW HT_.out HW_.out (by kernel_rfl)) (fun _ _ _ h => h) (Or.inl ⟨by rfl, ?_⟩) hHeld ?_ ?_
         rotate_left
         ·rintro w' ⟨s0, s1, s2, s3, s4, s5, s6, s7, s8, s9, s10, s11, s12, s13, s14, s15, s16, s17, s18, s19⟩
          go_simp
          with_reducible rfl
         rotate_left
         ·simp only [Act.put, sT, sZ, sS, i64_w, i32_w]
          rfl
         refine take_ (i := 18) (N := some 82) (v := ?_) (a' := ?_) (tf 20 6) rfl rfl (take_ofW HT_.out HW_.out (by kernel_rfl)) (fun _ _ _ h => h) (Or.inl ⟨by rfl, ?_⟩) hHeld ?_ ?_
         rotate_left
         ·rintro w' ⟨s0, s1, s2, s3, s4, s5, s6, s7, s8, s9, s10, s11, s12, s13, s14, s15, s16, s17, s18, s19⟩
          go_simp
          with_reducible rfl
         rotate_left
         ·simp only [Act.put, sT, sZ, sS, i64_w, i32_w]
          rfl
         refine pU 20 84 (tf 21 5) ?_
         refine take_ (i := 21) (N := some 85) (v := ?_) (a' := ?_) (tf 22 4) rfl rfl (take_ofW HT_.out HW_.out (by kernel_rfl)) (fun _ _ _ h => h) (Or.inl ⟨by rfl, ?_⟩) hHeld ?_ ?_
         rotate_left
         ·rintro w' ⟨s0, s1, s2, s3, s4, s5, s6, s7, s8, s9, s10, s11, s12, s13, s14, s15, s16, s17, s18, s19⟩
          go_simp
          with_reducible rfl
         rotate_left
         ·simp only [Act.put, sT, sZ, sS, i64_w, i32_w]
          rfl
         refine one_ (i := 22) (N := some 86) (tf 23 3) rfl rfl (one_of HT_.out (by kernel_rfl)) (by decide) (fun K hK => ?_)
         refine goes_ Tryz.func105 (by kernel_rfl) rfl #[.agg #[.string ((rd_T68 l0_5 (ji45)).f0), .string ((rd_T68 l0_5 (ji45)).f1), .string ((rd_T68 l0_5 (ji45)).f2), .string ((rd_T68 l0_5 (ji45)).f3)], .agg #[.string ((rd_T68 l0_5 x3_2).f0), .string ((rd_T68 l0_5 x3_2).f1), .string ((rd_T68 l0_5 x3_2).f2), .string ((rd_T68 l0_5 x3_2).f3)]] (by rfl) rfl rfl (by (try simp only [List.map_toArray, List.map_cons, List.map_nil]); first | done | (simp only [hji45]; rfl) | rfl | (simp only [List.length_drop, List.length_take]; rfl)) ?_
         with_reducible refine (spec_l5Less.calls ((rd_T68 l0_5 (ji45)).f0) ((rd_T68 l0_5 (ji45)).f1) ((rd_T68 l0_5 (ji45)).f2) ((rd_T68 l0_5 (ji45)).f3) ((rd_T68 l0_5 x3_2).f0) ((rd_T68 l0_5 x3_2).f1) ((rd_T68 l0_5 x3_2).f2) ((rd_T68 l0_5 x3_2).f3) t245 _ A48.out).mono ?_
         rintro e w52 ⟨rfl, hb⟩
         refine ⟨_, rfl, ?_⟩
         replace BK234 := Aside0.mk (blk_below (g := gb234) (by (with_reducible repeat (first | refine bN ?_ _|refine bD ?_|refine bA ?_ _)); exact BK234.out) hb)
         replace HB := Aside0.mk (below_step hB hb)
         (try clear hb)
         (try clear hb2)
         (try clear hk)
         (try clear hi)
         refine hK.out _ _ ⟨(blk_cell BK234.out 0).trans rfl, (blk_cell BK234.out 1).trans rfl, (blk_cell BK234.out 2).trans rfl, (blk_cell BK234.out 3).trans rfl, (blk_cell BK234.out 4).trans rfl, (blk_cell BK234.out 5).trans rfl, (blk_cell BK234.out 6).trans rfl, (blk_cell BK234.out 7).trans rfl, (pw_cell_below HB.out hw241_0), (pw_cell_below HB.out hw241_1), (pw_cell_below HB.out hw241_2), (pw_cell_below HB.out hw241_3), (pw_cell_below HB.out hw243_0), (pw_cell_below HB.out hw243_1), (pw_cell_below HB.out hw243_2), (pw_cell_below HB.out hw243_3), (pw_cell_below HB.out hw244_0), (pw_cell_below HB.out hw244_1), (pw_cell_below HB.out hw244_2), (pw_cell_below HB.out hw244_3)⟩ (fun hHeld => ?_)
         clear hK K
         refine norm_ (a' := ?_) ?_ ?_
         rotate_left
         ·show Act.put _ (some 86) _ = _
          simp only [Act.put, sT, sZ, sS, i64_w, i32_w]
          rfl
         refine pU 23 87 (tf 24 2) ?_
         refine pU 24 88 (tf 25 1) ?_
         refine pU 25 89 (tf 26 0) ?_
         refine done_ (done_of HT_.out (by kernel_rfl)) ?_
         by_cases c53 : t245 = true
         ·subst c53
          rw [if_pos rfl] at H
          have H' := Aside0.mk H
          clear H
          go_wp2
          go_roundg k2
          case measure => have := HJ4.out; have := HK2.out; omega
          case rel => exact ⟨(wrap64 (x3_2 + 1)), rG, H', ⟨by have := HJ4.out; have := HK2.out; omega⟩, ⟨by (with_reducible repeat (first | refine bN ?_ _|refine bD ?_|refine bA ?_ _)); exact BK234.out⟩, ⟨hB⟩⟩
         ·replace c53 := Bool.eq_false_iff.mpr c53
          subst c53
          rw [if_neg (show ¬ (false = true) by decide)] at H
          obtain rfl := Option.some.inj H
          go_wp2
          go_ret
          exact ⟨by first | rfl | (simp [errW_none, errW_some] <;> rfl) | (simp only [← hji45]; first | rfl | (simp [errW_none, errW_some] <;> rfl)) | (simp [*, errW_none, errW_some] <;> rfl), hB⟩
        ·rw [if_neg c44] at H
         have c44b0 : decide (0 < x3_2) = false := decide_eq_false c44
         clear c44
         have H' := Aside0.mk H
         clear H
         obtain ⟨hcz54_0, hcz54_1, hcz54_2, hcz54_3, hcz54_4, hcz54_5, hcz54_6, hcz54_7⟩ := bc8 BK234.out
         try go_wp2
         replace BK234 := Aside0.mk (blk_drew BK234.out)
         replace HB := Aside0.mk (below_drew1 HB.out)
         have p241 : 0 ≤ (x3_2 : Int) := odt
         have q241 : x3_2 < (l0_5.length : Int) := odt
         obtain ⟨ad241, e241, hx241_0, hx241_1, hx241_2, hx241_3⟩ := at_T68 HR0_5.out x3_2 p241 q241
         have hw241_3 := hx241_3
         have hw241_2 := hx241_2
         have hw241_1 := hx241_1
         have hw241_0 := hx241_0
         cases e241
         replace hx241_0 := pw_cell_below HB.out hx241_0
         replace hx241_1 := pw_cell_below HB.out hx241_1
         replace hx241_2 := pw_cell_below HB.out hx241_2
         replace hx241_3 := pw_cell_below HB.out hx241_3
         replace p241 := eq_true p241
         replace q241 := eq_true q241
         refine start_ (n := 26) (S := fun w' => w'.cell? ⟨gb234, 0, none⟩ = some (.int .i64 a0_0) ∧ w'.cell? ⟨gb234, 1, none⟩ = some (.string a0_1) ∧ w'.cell? ⟨gb234, 2, none⟩ = some (.string a0_2) ∧ w'.cell? ⟨gb234, 3, none⟩ = some (.string a0_3) ∧ w'.cell? ⟨gb234, 4, none⟩ = some (.slice A0_4 l0_4.length c0_4) ∧ w'.cell? ⟨gb234, 5, none⟩ = some (.slice (some ad241) l0_5.length c0_5) ∧ w'.cell? ⟨gb234, 6, none⟩ = some (.slice A0_6 l0_6.length c0_6) ∧ w'.cell? ⟨gb234, 7, none⟩ = some (.string a0_7) ∧ w'.cell? (ad241.add ((x3_2).toNat * 4)) = some (.string ((rd_T68 l0_5 x3_2).f0)) ∧ w'.cell? ⟨(ad241.add ((x3_2).toNat * 4)).block, (ad241.add ((x3_2).toNat * 4)).off + 1, none⟩ = some (.string ((rd_T68 l0_5 x3_2).f1)) ∧ w'.cell? ⟨(ad241.add ((x3_2).toNat * 4)).block, (ad241.add ((x3_2).toNat * 4)).off + 2, none⟩ = some (.string ((rd_T68 l0_5 x3_2).f2)) ∧ w'.cell? ⟨(ad241.add ((x3_2).toNat * 4)).block, (ad241.add ((x3_2).toNat * 4)).off + 3, none⟩ = some (.string ((rd_T68 l0_5 x3_2).f3))) (ds := []) #[false, false, false, false, false, false, false, false, false, false, false, false, false, false, false, false, false, false, false, false, false, false, false, false, false, false] (by kernel_rfl) rfl rfl ⟨(blk_cell BK234.out 0).trans rfl, (blk_cell BK234.out 1).trans rfl, (blk_cell BK234.out 2).trans rfl, (blk_cell BK234.out 3).trans rfl, (blk_cell BK234.out 4).trans rfl, (blk_cell BK234.out 5).trans rfl, (blk_cell BK234.out 6).trans rfl, (blk_cell BK234.out 7).trans rfl, (pw_cell_below HB.out hw241_0), (pw_cell_below HB.out hw241_1), (pw_cell_below HB.out hw241_2), (pw_cell_below HB.out hw241_3)⟩ (fun hHeld => ?_); refine with_tabW spec_l5One.tab8 spec_l5One.bits8 (fun HT_ HW_ => ?_)
         generalize wr.drew = w55 at BK234 HB hx241_0 hx241_1 hx241_2 hx241_3 hHeld ⊢
         refine pU 0 64 (tf 1 25) ?_
         refine pU 2 66 #[true, false, true, false, false, false, false, false, false, false, false, false, false, false, false, false, false, false, false, false, false, false, false, false, false, false] ?_
         refine take_ (i := 1) (N := some 65) (v := ?_) (a' := ?_) (tf 3 23) rfl rfl (take_ofW HT_.out HW_.out (by kernel_rfl)) (fun _ _ _ h => h) (Or.inl ⟨by rfl, ?_⟩) hHeld ?_ ?_
         rotate_left
         ·rintro w' ⟨s0, s1, s2, s3, s4, s5, s6, s7, s8, s9, s10, s11⟩
          go_simp
          with_reducible rfl
         rotate_left
         ·simp only [Act.put, sT, sZ, sS, i64_w, i32_w]
          rfl
         refine pU 3 67 (tf 4 22) ?_
         refine take_ (i := 4) (N := some 68) (v := ?_) (a' := ?_) (tf 5 21) rfl rfl (take_ofW HT_.out HW_.out (by kernel_rfl)) (fun _ _ _ h => h) (Or.inl ⟨by rfl, ?_⟩) hHeld ?_ ?_
         rotate_left
         ·rintro w' ⟨s0, s1, s2, s3, s4, s5, s6, s7, s8, s9, s10, s11⟩
          go_simp
          with_reducible rfl
         rotate_left
         ·simp only [Act.put, sT, sZ, sS, i64_w, i32_w]
          rfl
         refine one_ (i := 5) (N := some 69) (tf 6 20) rfl rfl (one_of HT_.out (by kernel_rfl)) (by decide) (fun K hK => ?_)
         refine goes_ Tryz.func122 (by kernel_rfl) rfl #[.agg #[.string ((rd_T68 l0_5 x3_2).f0), .string ((rd_T68 l0_5 x3_2).f1), .string ((rd_T68 l0_5 x3_2).f2), .string ((rd_T68 l0_5 x3_2).f3)]] (by rfl) rfl rfl mA ?_
         with_reducible refine (spec_l5AttrOk.calls k2 ((rd_T68 l0_5 x3_2).f0) ((rd_T68 l0_5 x3_2).f1) ((rd_T68 l0_5 x3_2).f2) ((rd_T68 l0_5 x3_2).f3) true _ A42.out).mono ?_
         rintro e w56 ⟨rfl, hb⟩
         refine ⟨_, rfl, ?_⟩
         replace BK234 := Aside0.mk (blk_below (g := gb234) (by (with_reducible repeat (first | refine bN ?_ _|refine bD ?_|refine bA ?_ _)); exact BK234.out) hb)
         replace HB := Aside0.mk (below_step hB hb)
         (try clear hb)
         (try clear hb2)
         (try clear hk)
         (try clear hi)
         refine hK.out _ _ ⟨(blk_cell BK234.out 0).trans rfl, (blk_cell BK234.out 1).trans rfl, (blk_cell BK234.out 2).trans rfl, (blk_cell BK234.out 3).trans rfl, (blk_cell BK234.out 4).trans rfl, (blk_cell BK234.out 5).trans rfl, (blk_cell BK234.out 6).trans rfl, (blk_cell BK234.out 7).trans rfl, (pw_cell_below HB.out hw241_0), (pw_cell_below HB.out hw241_1), (pw_cell_below HB.out hw241_2), (pw_cell_below HB.out hw241_3)⟩ (fun hHeld => ?_)
         clear hK K
         refine norm_ (a' := ?_) ?_ ?_
         rotate_left
         ·show Act.put _ (some 69) _ = _
          simp only [Act.put, sT, sZ, sS, i64_w, i32_w]
          rfl
         refine pU 6 70 (tf 7 19) ?_
         refine pU 7 71 (tf 8 18) ?_
         refine pU 8 72 (tf 9 17) ?_
         refine pU 9 73 (tf 10 16) ?_
         refine pU 10 74 (tf 11 15) ?_
         refine pV 11 75 (tf 12 14) ?_
          rfl
         refine pV 12 76 (tf 13 13) ?_
          rfl
         refine pV 13 77 (tf 14 12) ?_
          rfl
         refine pV 14 78 (tf 15 11) ?_
          rfl
         refine pV 15 79 (tf 16 10) ?_
          rfl
         refine pV 16 80 (tf 17 9) ?_
          rfl
         refine pV 17 81 (tf 18 8) ?_
          rfl
         refine pV 18 82 (tf 19 7) ?_
          rfl
         refine pV 19 83 (tf 20 6) ?_
          rfl
         refine pV 20 84 (tf 21 5) ?_
          rfl
         refine pV 21 85 (tf 22 4) ?_
          rfl
         refine pV 22 86 (tf 23 3) ?_
          rfl
         refine pV 23 87 (tf 24 2) ?_
          rfl
         refine pU 24 88 (tf 25 1) ?_
         refine pU 25 89 (tf 26 0) ?_
         refine done_ (done_of HT_.out (by kernel_rfl)) ?_
         try go_wp2
         go_roundg k2
         case measure => have := HJ4.out; have := HK2.out; omega
         case rel => exact ⟨(wrap64 (x3_2 + 1)), rG, H', ⟨by have := HJ4.out; have := HK2.out; omega⟩, ⟨by (with_reducible repeat (first | refine bN ?_ _|refine bD ?_|refine bA ?_ _)); exact BK234.out⟩, ⟨hB⟩⟩
       ·replace c43 := Bool.eq_false_iff.mpr c43
        subst c43
        rw [if_neg (show ¬ (false = true) by decide)] at H
        obtain rfl := Option.some.inj H
        obtain ⟨hcz57_0, hcz57_1, hcz57_2, hcz57_3, hcz57_4, hcz57_5, hcz57_6, hcz57_7⟩ := bc8 BK234.out
        try go_wp2
        replace BK234 := Aside0.mk (blk_drew BK234.out)
        replace HB := Aside0.mk (below_drew1 HB.out)
        have p241 : 0 ≤ (x3_2 : Int) := odt
        have q241 : x3_2 < (l0_5.length : Int) := odt
        obtain ⟨ad241, e241, hx241_0, hx241_1, hx241_2, hx241_3⟩ := at_T68 HR0_5.out x3_2 p241 q241
        have hw241_3 := hx241_3
        have hw241_2 := hx241_2
        have hw241_1 := hx241_1
        have hw241_0 := hx241_0
        cases e241
        replace hx241_0 := pw_cell_below HB.out hx241_0
        replace hx241_1 := pw_cell_below HB.out hx241_1
        replace hx241_2 := pw_cell_below HB.out hx241_2
        replace hx241_3 := pw_cell_below HB.out hx241_3
        replace p241 := eq_true p241
        replace q241 := eq_true q241
        refine start_ (n := 26) (S := fun w' => w'.cell? ⟨gb234, 0, none⟩ = some (.int .i64 a0_0) ∧ w'.cell? ⟨gb234, 1, none⟩ = some (.string a0_1) ∧ w'.cell? ⟨gb234, 2, none⟩ = some (.string a0_2) ∧ w'.cell? ⟨gb234, 3, none⟩ = some (.string a0_3) ∧ w'.cell? ⟨gb234, 4, none⟩ = some (.slice A0_4 l0_4.length c0_4) ∧ w'.cell? ⟨gb234, 5, none⟩ = some (.slice (some ad241) l0_5.length c0_5) ∧ w'.cell? ⟨gb234, 6, none⟩ = some (.slice A0_6 l0_6.length c0_6) ∧ w'.cell? ⟨gb234, 7, none⟩ = some (.string a0_7) ∧ w'.cell? (ad241.add ((x3_2).toNat * 4)) = some (.string ((rd_T68 l0_5 x3_2).f0)) ∧ w'.cell? ⟨(ad241.add ((x3_2).toNat * 4)).block, (ad241.add ((x3_2).toNat * 4)).off + 1, none⟩ = some (.string ((rd_T68 l0_5 x3_2).f1)) ∧ w'.cell? ⟨(ad241.add ((x3_2).toNat * 4)).block, (ad241.add ((x3_2).toNat * 4)).off + 2, none⟩ = some (.string ((rd_T68 l0_5 x3_2).f2)) ∧ w'.cell? ⟨(ad241.add ((x3_2).toNat * 4)).block, (ad241.add ((x3_2).toNat * 4)).off + 3, none⟩ = some (.string ((rd_T68 l0_5 x3_2).f3))) (ds := []) #[false, false, false, false, false, false, false, false, false, false, false, false, false, false, false, false, false, false, false, false, false, false, false, false, false, false] (by kernel_rfl) rfl rfl ⟨(blk_cell BK234.out 0).trans rfl, (blk_cell BK234.out 1).trans rfl, (blk_cell BK234.out 2).trans rfl, (blk_cell BK234.out 3).trans rfl, (blk_cell BK234.out 4).trans rfl, (blk_cell BK234.out 5).trans rfl, (blk_cell BK234.out 6).trans rfl, (blk_cell BK234.out 7).trans rfl, (pw_cell_below HB.out hw241_0), (pw_cell_below HB.out hw241_1), (pw_cell_below HB.out hw241_2), (pw_cell_below HB.out hw241_3)⟩ (fun hHeld => ?_); refine with_tabW spec_l5One.tab8 spec_l5One.bits8 (fun HT_ HW_ => ?_)
        generalize wr.drew = w58 at BK234 HB hx241_0 hx241_1 hx241_2 hx241_3 hHeld ⊢
        refine pU 0 64 (tf 1 25) ?_
        refine pU 2 66 #[true, false, true, false, false, false, false, false, false, false, false, false, false, false, false, false, false, false, false, false, false, false, false, false, false, false] ?_
        refine take_ (i := 1) (N := some 65) (v := ?_) (a' := ?_) (tf 3 23) rfl rfl (take_ofW HT_.out HW_.out (by kernel_rfl)) (fun _ _ _ h => h) (Or.inl ⟨by rfl, ?_⟩) hHeld ?_ ?_
        rotate_left
        ·rintro w' ⟨s0, s1, s2, s3, s4, s5, s6, s7, s8, s9, s10, s11⟩
         go_simp
         with_reducible rfl
        rotate_left
        ·simp only [Act.put, sT, sZ, sS, i64_w, i32_w]
         rfl
        refine pU 3 67 (tf 4 22) ?_
        refine take_ (i := 4) (N := some 68) (v := ?_) (a' := ?_) (tf 5 21) rfl rfl (take_ofW HT_.out HW_.out (by kernel_rfl)) (fun _ _ _ h => h) (Or.inl ⟨by rfl, ?_⟩) hHeld ?_ ?_
        rotate_left
        ·rintro w' ⟨s0, s1, s2, s3, s4, s5, s6, s7, s8, s9, s10, s11⟩
         go_simp
         with_reducible rfl
        rotate_left
        ·simp only [Act.put, sT, sZ, sS, i64_w, i32_w]
         rfl
        refine one_ (i := 5) (N := some 69) (tf 6 20) rfl rfl (one_of HT_.out (by kernel_rfl)) (by decide) (fun K hK => ?_)
        refine goes_ Tryz.func122 (by kernel_rfl) rfl #[.agg #[.string ((rd_T68 l0_5 x3_2).f0), .string ((rd_T68 l0_5 x3_2).f1), .string ((rd_T68 l0_5 x3_2).f2), .string ((rd_T68 l0_5 x3_2).f3)]] (by rfl) rfl rfl mA ?_
        with_reducible refine (spec_l5AttrOk.calls k2 ((rd_T68 l0_5 x3_2).f0) ((rd_T68 l0_5 x3_2).f1) ((rd_T68 l0_5 x3_2).f2) ((rd_T68 l0_5 x3_2).f3) false _ A42.out).mono ?_
        rintro e w59 ⟨rfl, hb⟩
        refine ⟨_, rfl, ?_⟩
        replace BK234 := Aside0.mk (blk_below (g := gb234) (by (with_reducible repeat (first | refine bN ?_ _|refine bD ?_|refine bA ?_ _)); exact BK234.out) hb)
        replace HB := Aside0.mk (below_step hB hb)
        (try clear hb)
        (try clear hb2)
        (try clear hk)
        (try clear hi)
        refine hK.out _ _ ⟨(blk_cell BK234.out 0).trans rfl, (blk_cell BK234.out 1).trans rfl, (blk_cell BK234.out 2).trans rfl, (blk_cell BK234.out 3).trans rfl, (blk_cell BK234.out 4).trans rfl, (blk_cell BK234.out 5).trans rfl, (blk_cell BK234.out 6).trans rfl, (blk_cell BK234.out 7).trans rfl, (pw_cell_below HB.out hw241_0), (pw_cell_below HB.out hw241_1), (pw_cell_below HB.out hw241_2), (pw_cell_below HB.out hw241_3)⟩ (fun hHeld => ?_)
        clear hK K
        refine norm_ (a' := ?_) ?_ ?_
        rotate_left
        ·show Act.put _ (some 69) _ = _
         simp only [Act.put, sT, sZ, sS, i64_w, i32_w]
         rfl
        refine pU 6 70 (tf 7 19) ?_
        refine pU 7 71 (tf 8 18) ?_
        refine pV 8 72 (tf 9 17) ?_
         rfl
        refine pV 9 73 (tf 10 16) ?_
         rfl
        refine pV 10 74 (tf 11 15) ?_
         rfl
        refine pV 11 75 (tf 12 14) ?_
         rfl
        refine pV 12 76 (tf 13 13) ?_
         rfl
        refine pV 13 77 (tf 14 12) ?_
         rfl
        refine pV 14 78 (tf 15 11) ?_
         rfl
        refine pV 15 79 (tf 16 10) ?_
         rfl
        refine pV 16 80 (tf 17 9) ?_
         rfl
        refine pV 17 81 (tf 18 8) ?_
         rfl
        refine pV 18 82 (tf 19 7) ?_
         rfl
        refine pV 19 83 (tf 20 6) ?_
         rfl
        refine pV 20 84 (tf 21 5) ?_
         rfl
        refine pV 21 85 (tf 22 4) ?_
         rfl
        refine pV 22 86 (tf 23 3) ?_
         rfl
        refine pV 23 87 (tf 24 2) ?_
         rfl
        refine pV 24 88 (tf 25 1) ?_
         rfl
        refine pU 25 89 (tf 26 0) ?_
        refine done_ (done_of HT_.out (by kernel_rfl)) ?_
        try go_wp2
        go_ret
        exact ⟨rE, hB⟩
      ·rw [if_neg c40] at H
       have c40b0 : decide (x3_2 < (l0_5.length : Int)) = false := decide_eq_false c40
       clear c40
       obtain rfl := Option.some.inj H
       obtain ⟨hcz60_0, hcz60_1, hcz60_2, hcz60_3, hcz60_4, hcz60_5, hcz60_6, hcz60_7⟩ := bc8 BK234.out
       go_wp2
       go_ret
       exact ⟨rE, hB⟩

end Go.Proofs.YtalionlkjdgciaaGreatDoor.PA
