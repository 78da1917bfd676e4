-- Written by the session's program hprint.py, over the kit's print program. Lean checks it.
import Derived.Test.YtlfjdaoibjjakaaDoorPZx0
import Derived.Test.YtlfjdaoibjjakaaDoorPZx9
namespace Go.Proofs.YtlfjdaoibjjakaaDoor.PZ
open Go.RowKit Go.Proofs.YtlfjdaoibjjakaaDoorW.PrintWords Go.Proofs.YtlfjdaoibjjakaaDoorW.PrintLast Go.Proofs.YtlfjdaoibjjakaaDoorW.PrintMore
attribute [local go_sem] max2_int min2_int max_two min_two max_three min_three max_four min_four   -- for this text's walks alone
set_option linter.unusedVariables false
set_option linter.unusedSimpArgs false

/-! ### laws_toAttrS: function 26 -/
def laws_toAttrS.l0 : Nat → List (S83) → List (S72) → Int → Option ((List (S72)))
 | 0, _, _, _ => none
 | k + 1, x0, x3, x4 => if x4 < (x0.length : Int) then (if 0 ≤ x4 then ((laws_toAttr.f ((rd_T83 x0 x4).f0) ((rd_T83 x0 x4).f1) ((rd_T83 x0 x4).f2) ((rd_T83 x0 x4).f3)).bind fun bt218 => (if x4 < (x3.length : Int) then (laws_toAttrS.l0 k x0 (x3.set (x4 : Int).toNat (⟨bt218.1, bt218.2.1, bt218.2.2.1, bt218.2.2.2⟩ : S72)) (wrap64 (x4 + 1))) else (none))) else (none)) else (some x3)
def laws_toAttrS.f (k : Nat) (l0 : List (S83)) : Option ((List (S72))) := if 0 ≤ (l0.length : Int) then (if ((l0.length : Int) : Int).toNat ≤ 4398046511104 then (laws_toAttrS.l0 k l0 (List.replicate ((l0.length : Int) : Int).toNat z72) 0) else (none)) else (none)
theorem laws_toAttrS.mono_l : ∀ k, (∀ y0 y1 y2, LeO (laws_toAttrS.l0 k y0 y1 y2) (laws_toAttrS.l0 (k + 1) y0 y1 y2))
 | 0 => fun _ _ _ r h => by simp [laws_toAttrS.l0] at h
 | k + 1 => by
  have ih0 := laws_toAttrS.mono_l k
  ·intro y0 y1 y2
   unfold laws_toAttrS.l0
   repeat' first
   | (with_reducible exact ih0 _ _ _)
   | (with_reducible exact LeO.refl _)
   | (with_reducible exact LeO.none _)
   | (with_reducible refine LeO.ite ?_ ?_)
   | (with_reducible refine LeO.bind ?_ (fun _ => ?_))
   | exact ih0 _ _ _
   | exact LeO.none _
   | refine LeO.ite ?_ ?_
   | refine LeO.bind ?_ (fun _ => ?_)
theorem laws_toAttrS.mono : ∀ a0 k, LeO (laws_toAttrS.f k a0) (laws_toAttrS.f (k + 1) a0) := by
 intro a0 k
 have ih0 := laws_toAttrS.mono_l k
 unfold laws_toAttrS.f
 repeat' first
   | (with_reducible exact ih0 _ _ _)
   | (with_reducible exact LeO.refl _)
   | (with_reducible exact LeO.none _)
   | (with_reducible refine LeO.ite ?_ ?_)
   | (with_reducible refine LeO.bind ?_ (fun _ => ?_))
   | exact ih0 _ _ _
   | exact LeO.none _
   | refine LeO.ite ?_ ?_
   | refine LeO.bind ?_ (fun _ => ?_)
set_option maxHeartbeats 8000000 in
set_option maxRecDepth 100000 in
theorem laws_toAttrS.calls (k : Nat) (A0 : Option Addr) (c0 : Nat) (l0 : List (S83)) (r : List (S72)) (w : World) (hr0 : Kd.C k83 w A0 l0.length l0) (hc0 : l0.length ≤ c0) (h : laws_toAttrS.f k l0 = some r) :
  Calls Tryd.prog 26 #[.slice A0 l0.length c0] w fun e w' => ∃ v0_ : Value, e = .returned (v0_) ∧ Kd.R k72 72 w' w.heap.size (fun _ => True) v0_ r ∧ Below w.heap.size w w' := by
 have hu83 := Tryd.underlying83
 have hu72 := Tryd.underlying72
 have HR0 := Aside0.mk hr0
 have HC0 := Aside0.mk hc0
 clear hr0 hc0
 have HB := Aside0.mk (Below.refl w.heap.size w)
 have H : (if 0 ≤ (l0.length : Int) then (if ((l0.length : Int) : Int).toNat ≤ 4398046511104 then (laws_toAttrS.l0 k l0 (List.replicate ((l0.length : Int) : Int).toNat z72) 0) else (none)) else (none)) = some r := h
 clear h
 by_cases c2 : 0 ≤ (l0.length : Int)
 ·rw [if_pos c2] at H
  have c2b0 := eq_true c2
  have c2b1 : decide (0 ≤ (l0.length : Int)) = true := decide_eq_true c2
  clear c2
  by_cases c3 : ((l0.length : Int) : Int).toNat ≤ 4398046511104
  ·rw [if_pos c3] at H
   have c3b0 := eq_true c3
   have c3b1 : decide (((l0.length : Int) : Int).toNat ≤ 4398046511104) = true := decide_eq_true c3
   clear c3
   obtain ⟨y214, hy214⟩ : ∃ y_ : List (S72), y_ = (List.replicate ((l0.length : Int) : Int).toNat z72) := ⟨_, rfl⟩
   replace H : (laws_toAttrS.l0 k l0 y214 0) = some r := by first | (rw [hy214]; with_reducible exact H) | (have H2_ := (Option.bind_some _ _).symm.trans H; rw [hy214]; with_reducible exact H2_) | (have H2_ := (Option.bind_some _ _).symm.trans H; with_reducible exact H2_) | with_reducible exact H | (rw [hy214]; exact H) | exact H
   have Ny214 := Aside0.mk hy214
   clear hy214
   have H' := Aside0.mk H
   clear H
   go_enter Tryd.func26, Tryd.ntmps26
   go_wp2_with (first | ((with_reducible refine gate_dst (N := 7) rfl ?_); refine Kd.R_make k72 _ 72 rfl (N := 7) rfl 30 _ _ rfl (l0.length : Int) rfl rfl Tryd.underlying30 (.agg #[(.string ⟨#[]⟩), (.string ⟨#[]⟩), (.string ⟨#[]⟩), (.string ⟨#[]⟩)]) 64 info72 rfl (by decide) (by omega) z72 (ok := fun _ => True) (okp := fun _ => True) (k72_mkM _ _ _ z72 ) (fun _ hk => hk) trivial (odt) (Nat.le_trans (Nat.mul_le_mul_right _ (odt : (l0.length : Int).toNat ≤ 4398046511104)) (by omega)) (Below.refl _ _) (Nat.le_refl _) ?_; intro v215 w4 ho5 hb hg_ hnew_; clear hg_ hnew_; (first | rw [← Ny214.out] at ho5 | (simp only [Int.reduceToNat] at ho5; rw [← Ny214.out] at ho5)); have HO216 := Aside0.mk (Kd.R_lower ho5 (below_size (by repeat (first|(with_reducible first|exact HB.out|apply zA|apply zN|apply zD) | exact HB.out)))); replace HB := Aside0.mk (below_step (by repeat (first|(with_reducible first|exact HB.out|apply zA|apply zN|apply zD) | exact HB.out)) hb); clear hb ho5))
   go_loopg [4] k (fun kq v4 w' => ∃ (x3_1 : List (S72)) (x4_1 : Int), v4 = .int .i64 x4_1 ∧ Aside0 (laws_toAttrS.l0 kq l0 x3_1 x4_1 = some r) ∧ Aside0 (kq ≤ k) ∧ Aside0 (Kd.R k72 72 w' w.heap.size (fun _ => True) v215 x3_1) ∧ Aside0 (Below w.heap.size w w'))
   case atStart => exact ⟨(y214), (0), rG, H', ⟨Nat.le_refl _⟩, ⟨by (with_reducible repeat (first|apply rA|apply rN|apply rD)); exact HO216.out⟩, ⟨by repeat (first|(with_reducible first|exact HB.out|apply zA|apply zN|apply zD) | exact HB.out)⟩⟩
   case round =>
    clear H'
    try clear c2
    try clear c2b0
    try clear c2b1
    try clear p2
    try clear c3
    try clear c3b0
    try clear c3b1
    try clear p2
    obtain ⟨x3_1, x4_1, rfl, HA, HK1, HO_3, HB⟩ := hrel
    cases gk with
    | zero => exact absurd HA.out (by simp [laws_toAttrS.l0])
    | succ k1 =>
     have H := HA.out
     clear HA
     simp only [laws_toAttrS.l0] at H
     by_cases c6 : x4_1 < (l0.length : Int)
     ·rw [if_pos c6] at H
      have c6b0 : decide (x4_1 < (l0.length : Int)) = true := decide_eq_true c6
      clear c6
      by_cases c7 : 0 ≤ x4_1
      ·rw [if_pos c7] at H
       have c7b0 : decide (0 ≤ x4_1) = true := decide_eq_true c7
       clear c7
       replace H := Option.bind_eq_some_iff.mp H
       obtain ⟨⟨t218, t219, t220, t221⟩, A80, H⟩ := H
       try dsimp only at H
       have A8 := Aside0.mk A80
       clear A80
       have p217 : 0 ≤ (x4_1 : Int) := odt
       have q217 : x4_1 < (l0.length : Int) := odt
       obtain ⟨ad217, e217, hx217_0, hx217_1, hx217_2, hx217_3⟩ := at_T83 HR0.out x4_1 p217 q217
       cases e217
       replace hx217_0 := (HB.out.cell (World.block_lt_of_cell? w _ hx217_0)).trans hx217_0
       replace hx217_1 := (HB.out.cell (World.block_lt_of_cell? w _ hx217_1)).trans hx217_1
       replace hx217_2 := (HB.out.cell (World.block_lt_of_cell? w _ hx217_2)).trans hx217_2
       replace hx217_3 := (HB.out.cell (World.block_lt_of_cell? w _ hx217_3)).trans hx217_3
       replace p217 := eq_true p217
       replace q217 := eq_true q217
       go_wp2_with (first | ((with_reducible refine gate_callee (f := 52) rfl ?_); refine goesL_ (some 20) rfl rfl Tryd.func52 (by kernel_rfl) rfl #[.agg #[.string ((rd_T83 l0 x4_1).f0), .string ((rd_T83 l0 x4_1).f1), .string ((rd_T83 l0 x4_1).f2), .string ((rd_T83 l0 x4_1).f3)]] rfl (by (try simp only [List.map_toArray, List.map_cons, List.map_nil]); first | done | rfl | (simp only [List.length_drop, List.length_take]; rfl)) ?_; (with_reducible refine (laws_toAttr.calls ((rd_T83 l0 x4_1).f0) ((rd_T83 l0 x4_1).f1) ((rd_T83 l0 x4_1).f2) ((rd_T83 l0 x4_1).f3) t218 t219 t220 t221 _ A8.out).mono ?_); rintro e w9 ⟨rfl, hb⟩; refine ⟨_, rfl, ?_⟩; replace HO_3 := Aside0.mk (Kd.R_below (by (with_reducible repeat (first|apply rA|apply rN|apply rD)); exact HO_3.out) hb); replace HB := Aside0.mk (below_step (by repeat (first|(with_reducible first|exact HB.out|apply zA|apply zN|apply zD) | exact HB.out)) hb); (try clear hb); (try clear hb2); (try clear hk); (try clear hi); refine halt_ ?_; intro q_ hq_))
       obtain ⟨rfl⟩ := hq_
       by_cases c10 : x4_1 < (x3_1.length : Int)
       ·rw [if_pos c10] at H
        have c10b0 : decide (x4_1 < (x3_1.length : Int)) = true := decide_eq_true c10
        clear c10
        obtain ⟨y222, hy222⟩ : ∃ y_ : List (S72), y_ = (x3_1.set (x4_1 : Int).toNat (⟨t218, t219, t220, t221⟩ : S72)) := ⟨_, rfl⟩
        replace H : (laws_toAttrS.l0 k1 l0 y222 (wrap64 (x4_1 + 1))) = some r := by first | (rw [hy222]; with_reducible exact H) | (have H2_ := (Option.bind_some _ _).symm.trans H; rw [hy222]; with_reducible exact H2_) | (have H2_ := (Option.bind_some _ _).symm.trans H; with_reducible exact H2_) | with_reducible exact H | (rw [hy222]; exact H) | exact H
        have Ny222 := Aside0.mk hy222
        clear hy222
        have H' := Aside0.mk H
        clear H
        have p11 : 0 ≤ (x4_1 : Int) := odt
        have q11 : (x4_1 : Int) < ((x3_1.length : Int) : Int) := odt
        obtain ⟨go11, co11, eo11, gb11, gl11, cl11, HG11⟩ := Kd.R_form HO_3.out (by omega)
        (first | cases eo11 | (injection eo11 with ea_ en_ ec_; (first | subst ea_ | (injection ea_ with ea_; subst ea_)); subst ec_; clear en_))
        have GB11 := Aside0.mk gb11
        have GG11 := Aside0.mk HG11
        clear gb11 gl11 HG11
        obtain ⟨ce11, hcl11, hM11, hcc11, hfr11⟩ := Kd.R_elem HO_3.out z72 (x4_1 : Int) p11 q11
        obtain rfl := k72_openM hM11
        have hx11_0 : w9.cell? ⟨go11, (x4_1 : Int).toNat * 4, none⟩ = some (.string ((rd_T72 x3_1 x4_1).f0)) := hcc11 0 _ rfl
        have hx11_1 : w9.cell? ⟨go11, (x4_1 : Int).toNat * 4 + 1, none⟩ = some (.string ((rd_T72 x3_1 x4_1).f1)) := hcc11 1 _ rfl
        have hx11_2 : w9.cell? ⟨go11, (x4_1 : Int).toNat * 4 + 2, none⟩ = some (.string ((rd_T72 x3_1 x4_1).f2)) := hcc11 2 _ rfl
        have hx11_3 : w9.cell? ⟨go11, (x4_1 : Int).toNat * 4 + 3, none⟩ = some (.string ((rd_T72 x3_1 x4_1).f3)) := hcc11 3 _ rfl
        have hf11_0 : w9.frozen? ⟨go11, (x4_1 : Int).toNat * 4, none⟩ = false := hfr11 0
        have hf11_1 : w9.frozen? ⟨go11, (x4_1 : Int).toNat * 4 + 1, none⟩ = false := hfr11 1
        have hf11_2 : w9.frozen? ⟨go11, (x4_1 : Int).toNat * 4 + 2, none⟩ = false := hfr11 2
        have hf11_3 : w9.frozen? ⟨go11, (x4_1 : Int).toNat * 4 + 3, none⟩ = false := hfr11 3
        clear hcl11 hcc11 hfr11 hM11
        replace p11 := eq_true p11
        replace q11 := eq_true q11
        have HX12 := Aside0.mk (show Kd.R k72 72 w9 w.heap.size (fun _ => True) (.slice (some ⟨go11, 0, none⟩) x3_1.length co11) x3_1 from (by (with_reducible repeat (first|apply rA|apply rN|apply rD)); exact HO_3.out))
        obtain ⟨ce12, hcl12, hM12, hcc12, hfr12⟩ := Kd.R_elem HX12.out z72 (x4_1 : Int) (odt) (by have h_ : (x4_1 : Int) < ((x3_1.length : Int) : Int) := odt; first | exact h_ | (have e_ := (Kd.R_reads' HO_3.out).1; omega) | simpa using h_)
        obtain rfl := k72_openM hM12
        have HP12 := Kd.R_seg HX12.out (x4_1 : Int) (odt) (by have h_ : (x4_1 : Int) < ((x3_1.length : Int) : Int) := odt; first | exact h_ | (have e_ := (Kd.R_reads' HO_3.out).1; omega) | simpa using h_) (seg := [.string t218, .string t219, .string t220, .string t221]) (j := 0) hcl12 hcc12 (show 4 ≤ 4 from by decide) (x' := (⟨t218, t219, t220, t221⟩ : S72)) (k72_mkM _ _ _ (⟨t218, t219, t220, t221⟩ : S72) ) (fun _ hk => hk)
        have hx12_0 := hcc12 0 _ rfl
        (try simp only [show (k72).sz = 4 from rfl, Nat.mul_one, Nat.add_zero] at hx12_0)
        have hf12_0 := hfr12 0
        (try simp only [show (k72).sz = 4 from rfl, Nat.mul_one, Nat.add_zero] at hf12_0)
        have hx12_1 := hcc12 1 _ rfl
        (try simp only [show (k72).sz = 4 from rfl, Nat.mul_one, Nat.add_zero] at hx12_1)
        have hf12_1 := hfr12 1
        (try simp only [show (k72).sz = 4 from rfl, Nat.mul_one, Nat.add_zero] at hf12_1)
        have hx12_2 := hcc12 2 _ rfl
        (try simp only [show (k72).sz = 4 from rfl, Nat.mul_one, Nat.add_zero] at hx12_2)
        have hf12_2 := hfr12 2
        (try simp only [show (k72).sz = 4 from rfl, Nat.mul_one, Nat.add_zero] at hf12_2)
        have hx12_3 := hcc12 3 _ rfl
        (try simp only [show (k72).sz = 4 from rfl, Nat.mul_one, Nat.add_zero] at hx12_3)
        have hf12_3 := hfr12 3
        (try simp only [show (k72).sz = 4 from rfl, Nat.mul_one, Nat.add_zero] at hf12_3)
        clear hcl12 hcc12 hfr12 hM12
        go_wp2_with (first | ((with_reducible refine gate_store (t := 72) (p := 21) rfl ?_); refine store_event (t := 72) (p := 21) (v := ?vo_w13) (w1 := ((((w9.setCell ⟨go11, (x4_1 : Int).toNat * 4, none⟩ (.string t218)).setCell ⟨go11, (x4_1 : Int).toNat * 4 + 1, none⟩ (.string t219)).setCell ⟨go11, (x4_1 : Int).toNat * 4 + 2, none⟩ (.string t220)).setCell ⟨go11, (x4_1 : Int).toNat * 4 + 3, none⟩ (.string t221))) ?hg ?ho ?hn ?hr ?_; (case ho => rfl); (case hg => rfl); (case hn => rfl); (case hr => first | (go_simp; done) | (go_simp; rfl)); intro w13 hw; have hg : w9.grownBy w13 (some go11) := (by rw [hw]; exact HP12.2); have hp_ : Kd.R k72 72 w13 w.heap.size (fun _ => True) (.slice (some ⟨go11, 0, none⟩) x3_1.length co11) y222 := (by rw [hw, Ny222.out]; exact HP12.1); clear HP12; replace HO_3 := Aside0.mk (hp_); replace HB := Aside0.mk ((by rw [hw]; exact below_set (below_set (below_set (below_set (HB.out) GB11.out) GB11.out) GB11.out) GB11.out : Below w.heap.size w w13)); clear hg hw hp_))
        go_roundg k1
        case measure => have := HK1.out; omega
        case rel => exact ⟨(y222), (wrap64 (x4_1 + 1)), rG, H', ⟨by have := HK1.out; omega⟩, ⟨by (with_reducible repeat (first|apply rA|apply rN|apply rD)); exact HO_3.out⟩, ⟨by repeat (first|(with_reducible first|exact HB.out|apply zA|apply zN|apply zD) | exact HB.out)⟩⟩
       ·rw [if_neg c10] at H
        exact absurd H (by simp)
      ·rw [if_neg c7] at H
       exact absurd H (by simp)
     ·rw [if_neg c6] at H
      have c6b0 : decide (x4_1 < (l0.length : Int)) = false := decide_eq_false c6
      clear c6
      obtain rfl := Option.some.inj H
      go_wp2
      go_ret
      exact ⟨_, rE, by (with_reducible repeat (first|apply rA|apply rN|apply rD)); exact HO_3.out, by repeat (first|(with_reducible first|exact HB.out|apply zA|apply zN|apply zD) | exact HB.out)⟩
  ·rw [if_neg c3] at H
   exact absurd H (by simp)
 ·rw [if_neg c2] at H
  exact absurd H (by simp)

-- laws_toNode: beside laws_toNodeS

/-! ### impl_CountOf: function 28 -/
mutual
def impl_CountOf.l0 : Nat → Int → List (S33) → Int → Int → Option (Int)
 | 0, _, _, _, _ => none
 | k + 1, x3, x11, x12, x13 => if x13 < x12 then (if 0 ≤ x13 then (if x13 < (x11.length : Int) then ((impl_CountOf.f k ((rd_T33 x11 x13).f0) ((rd_T33 x11 x13).f1) ((rd_T33 x11 x13).f2) ((rd_T33 x11 x13).f3) ((rd_T33 x11 x13).f4) ((rd_T33 x11 x13).f5) ((rd_T33 x11 x13).f6) ((rd_T33 x11 x13).f7)).bind fun t238 => (impl_CountOf.l0 k (wrap64 (x3 + t238)) x11 x12 (wrap64 (x13 + 1)))) else (none)) else (none)) else (some x3)
def impl_CountOf.f : Nat → Int → ByteArray → ByteArray → ByteArray → List (S84) → List (S72) → List (S33) → ByteArray → Option (Int)
 | 0, _, _, _, _, _, _, _, _ => none
 | k + 1, a0_0, a0_1, a0_2, a0_3, l0_4, l0_5, l0_6, a0_7 => impl_CountOf.l0 k (wrap64 (1 + (l0_5.length : Int))) l0_6 (l0_6.length : Int) 0
end
set_option maxHeartbeats 8000000 in
set_option maxRecDepth 100000 in
theorem impl_CountOf.calls (k : Nat) : ∀ (a0_0 : Int) (a0_1 : ByteArray) (a0_2 : ByteArray) (a0_3 : ByteArray) (A0_4 : Option Addr) (c0_4 : Nat) (l0_4 : List (S84)) (A0_5 : Option Addr) (c0_5 : Nat) (l0_5 : List (S72)) (A0_6 : Option Addr) (c0_6 : Nat) (l0_6 : List (S33)) (a0_7 : ByteArray) (r : Int) (w : World) (hr0_4 : Kd.C k84 w A0_4 l0_4.length l0_4) (hc0_4 : l0_4.length ≤ c0_4) (hr0_5 : Kd.C k72 w A0_5 l0_5.length l0_5) (hc0_5 : l0_5.length ≤ c0_5) (hr0_6 : Kd.C k33 w A0_6 l0_6.length l0_6) (hc0_6 : l0_6.length ≤ c0_6) (h : impl_CountOf.f k a0_0 a0_1 a0_2 a0_3 l0_4 l0_5 l0_6 a0_7 = some r),
  Calls Tryd.prog 28 #[.agg #[.int .i64 a0_0, .string a0_1, .string a0_2, .string a0_3, .slice A0_4 l0_4.length c0_4, .slice A0_5 l0_5.length c0_5, .slice A0_6 l0_6.length c0_6, .string a0_7]] w fun e w' => e = .returned (.int .i64 r) ∧ Below w.heap.size w w' := by
 induction k using Nat.strongRecOn with
 | _ k ih =>
 intro a0_0 a0_1 a0_2 a0_3 A0_4 c0_4 l0_4 A0_5 c0_5 l0_5 A0_6 c0_6 l0_6 a0_7 r w hr0_4 hc0_4 hr0_5 hc0_5 hr0_6 hc0_6 h
 cases k with
 | zero => exact absurd h (by simp [impl_CountOf.f])
 | succ k =>
 simp only [impl_CountOf.f] at h
 have hu33 := Tryd.underlying33
 have HR0_4 := Aside0.mk hr0_4
 have HC0_4 := Aside0.mk hc0_4
 clear hr0_4 hc0_4
 have HR0_5 := Aside0.mk hr0_5
 have HC0_5 := Aside0.mk hc0_5
 clear hr0_5 hc0_5
 have HR0_6 := Aside0.mk hr0_6
 have HC0_6 := Aside0.mk hc0_6
 clear hr0_6 hc0_6
 have HB := Aside0.mk (Below.refl w.heap.size w)
 have H : (impl_CountOf.l0 k (wrap64 (1 + (l0_5.length : Int))) l0_6 (l0_6.length : Int) 0) = some r := h
 clear h
 have H' := Aside0.mk H
 clear H
 go_enter Tryd.func28, Tryd.ntmps28
 go_wp2_with (first | ((with_reducible refine gate_dst (N := 1) rfl ?_); refine box_event ?hg (N := 1) ?hd (cs := #[.int .i64 a0_0, .string a0_1, .string a0_2, .string a0_3, .slice A0_4 l0_4.length c0_4, .slice A0_5 l0_5.length c0_5, .slice A0_6 l0_6.length c0_6, .string a0_7]) (t := 33) ?hr ?_; (case hd => rfl); (case hg => rfl); (case hr => first | (go_simp; done) | (go_simp; rfl)); intro gb235 hg w2 hbox hb; have BK235 := Aside0.mk (hbox); have GW235 := Aside0.mk ((by rw [hg]; exact (below_size (by repeat (first|(with_reducible first|exact HB.out|apply zA|apply zN|apply zD) | exact HB.out))) : w.heap.size ≤ gb235)); have GE235 := Aside0.mk ((by rw [hg]; exact (below_size (by repeat (first|(with_reducible first|exact HB.out|apply zA|apply zN|apply zD) | exact HB.out))) : w.heap.size ≤ gb235)); replace HB := Aside0.mk (below_step (by repeat (first|(with_reducible first|exact HB.out|apply zA|apply zN|apply zD) | exact HB.out)) hb); clear hb hbox hg; obtain ⟨hcz3_0, hcz3_1, hcz3_2, hcz3_3, hcz3_4, hcz3_5, hcz3_6, hcz3_7⟩ := bc8 BK235.out; obtain ⟨hfz3_0, hfz3_1, hfz3_2, hfz3_3, hfz3_4, hfz3_5, hfz3_6, hfz3_7⟩ := bf8 BK235.out))
 go_loopg [3, 13] k (fun kq v3 v13 w' => ∃ (x3_1 : Int) (x13_1 : Int), v3 = .int .i64 x3_1 ∧ v13 = .int .i64 x13_1 ∧ Aside0 (impl_CountOf.l0 kq x3_1 l0_6 (l0_6.length : Int) x13_1 = some r) ∧ Aside0 (kq ≤ k) ∧ Aside0 (w'.heap[gb235]? = some (.cells #[.int .i64 a0_0, .string a0_1, .string a0_2, .string a0_3, (.slice A0_4 l0_4.length c0_4), (.slice A0_5 l0_5.length c0_5), (.slice A0_6 l0_6.length c0_6), .string a0_7] 33 (0, 0))) ∧ Aside0 (Below w.heap.size w w'))
 case atStart => exact ⟨(wrap64 (1 + (l0_5.length : Int))), (0), rG, rG, H', ⟨Nat.le_refl _⟩, ⟨by (with_reducible repeat (first | refine bN ?_ _|refine bD ?_|refine bA ?_ _)); exact BK235.out⟩, ⟨by repeat (first|(with_reducible first|exact HB.out|apply zA|apply zN|apply zD | refine below_set ?_ GE235.out) | exact HB.out)⟩⟩
 case round =>
  clear H'
  try clear c2
  try clear p2
  try clear hcz3_0 hcz3_1 hcz3_2 hcz3_3 hcz3_4 hcz3_5 hcz3_6 hcz3_7
  try clear hfz3_0 hfz3_1 hfz3_2 hfz3_3 hfz3_4 hfz3_5 hfz3_6 hfz3_7
  try clear p2
  obtain ⟨x3_1, x13_1, rfl, rfl, HA, HK1, BK235, HB⟩ := hrel
  cases gk with
  | zero => exact absurd HA.out (by simp [impl_CountOf.l0])
  | succ k1 =>
   have H := HA.out
   clear HA
   simp only [impl_CountOf.l0] at H
   by_cases c4 : x13_1 < (l0_6.length : Int)
   ·rw [if_pos c4] at H
    have c4b0 : decide (x13_1 < (l0_6.length : Int)) = true := decide_eq_true c4
    clear c4
    by_cases c5 : 0 ≤ x13_1
    ·rw [if_pos c5] at H
     have c5b0 : decide (0 ≤ x13_1) = true := decide_eq_true c5
     clear c5
     by_cases c6 : x13_1 < (l0_6.length : Int)
     ·rw [if_pos c6] at H
      have c6b0 : decide (x13_1 < (l0_6.length : Int)) = true := decide_eq_true c6
      clear c6
      replace H := Option.bind_eq_some_iff.mp H
      obtain ⟨t238, A70, H⟩ := H
      try dsimp only at H
      have A7 := Aside0.mk A70
      clear A70
      have H' := Aside0.mk H
      clear H
      have p236 : 0 ≤ (x13_1 : Int) := odt
      have q236 : x13_1 < (l0_6.length : Int) := odt
      obtain ⟨ad236, A236_4, c236_4, A236_5, c236_5, A236_6, c236_6, e236, hx236_0, hx236_1, hx236_2, hx236_3, hx236_4, hx236_5, hx236_6, hx236_7, hl236_4, hi236_4, hl236_5, hi236_5, hl236_6, hi236_6⟩ := at_T33 HR0_6.out x13_1 p236 q236
      cases e236
      replace hx236_0 := (HB.out.cell (World.block_lt_of_cell? w _ hx236_0)).trans hx236_0
      replace hx236_1 := (HB.out.cell (World.block_lt_of_cell? w _ hx236_1)).trans hx236_1
      replace hx236_2 := (HB.out.cell (World.block_lt_of_cell? w _ hx236_2)).trans hx236_2
      replace hx236_3 := (HB.out.cell (World.block_lt_of_cell? w _ hx236_3)).trans hx236_3
      replace hx236_4 := (HB.out.cell (World.block_lt_of_cell? w _ hx236_4)).trans hx236_4
      replace hx236_5 := (HB.out.cell (World.block_lt_of_cell? w _ hx236_5)).trans hx236_5
      replace hx236_6 := (HB.out.cell (World.block_lt_of_cell? w _ hx236_6)).trans hx236_6
      replace hx236_7 := (HB.out.cell (World.block_lt_of_cell? w _ hx236_7)).trans hx236_7
      have HR236_4 := Aside0.mk hi236_4
      have HC236_4 := Aside0.mk hl236_4
      clear hi236_4 hl236_4
      have HR236_5 := Aside0.mk hi236_5
      have HC236_5 := Aside0.mk hl236_5
      clear hi236_5 hl236_5
      have HR236_6 := Aside0.mk hi236_6
      have HC236_6 := Aside0.mk hl236_6
      clear hi236_6 hl236_6
      replace p236 := eq_true p236
      replace q236 := eq_true q236
      go_wp2_with (first | ((with_reducible refine gate_dst (N := 5) rfl ?_); refine box_event ?hg (N := 5) ?hd (cs := #[.int .i64 0, .string (⟨#[]⟩ : ByteArray), .string (⟨#[]⟩ : ByteArray), .string (⟨#[]⟩ : ByteArray), .slice none 0 0, .slice none 0 0, .slice none 0 0, .string (⟨#[]⟩ : ByteArray)]) (t := 33) ?hr ?_; (case hd => rfl); (case hg => rfl); (case hr => first | (go_simp; done) | (go_simp; rfl)); intro gb237 hg w8 hbox hb; have BK237 := Aside0.mk (hbox); have GW237 := Aside0.mk ((by rw [hg]; exact (below_size (by repeat (first|(with_reducible first|exact HB.out|apply zA|apply zN|apply zD | refine below_set ?_ GE235.out) | exact HB.out))) : w.heap.size ≤ gb237)); have GE237 := Aside0.mk ((by rw [hg]; exact (below_size (by repeat (first|(with_reducible first|exact HB.out|apply zA|apply zN|apply zD | refine below_set ?_ GE235.out) | exact HB.out))) : w.heap.size ≤ gb237)); replace HB := Aside0.mk (below_step (by repeat (first|(with_reducible first|exact HB.out|apply zA|apply zN|apply zD | refine below_set ?_ GE235.out) | exact HB.out)) hb); have NB235_237 := Aside0.mk ((by rw [hg]; exact Nat.ne_of_lt (blk_lt (g := gb235) (by (with_reducible repeat (first | refine bN ?_ _|refine bD ?_|refine bA ?_ _)); exact BK235.out)) : gb235 ≠ gb237)); have NB237_235 := Aside0.mk ((by rw [hg]; exact Nat.ne_of_gt (blk_lt (g := gb235) (by (with_reducible repeat (first | refine bN ?_ _|refine bD ?_|refine bA ?_ _)); exact BK235.out)) : gb237 ≠ gb235)); replace BK235 := Aside0.mk (blk_below (g := gb235) (by (with_reducible repeat (first | refine bN ?_ _|refine bD ?_|refine bA ?_ _)); exact BK235.out) hb); clear hb hbox hg; have hnb9 := NB237_235.out; have hnc9 := NB235_237.out; obtain ⟨hcz10_0, hcz10_1, hcz10_2, hcz10_3, hcz10_4, hcz10_5, hcz10_6, hcz10_7⟩ := bc8 BK237.out; obtain ⟨hfz10_0, hfz10_1, hfz10_2, hfz10_3, hfz10_4, hfz10_5, hfz10_6, hfz10_7⟩ := bf8 BK237.out) | ((with_reducible refine gate_callee (f := 28) rfl ?_); refine goesL_ (some 19) rfl rfl Tryd.func28 (by kernel_rfl) rfl #[.agg #[.int .i64 ((rd_T33 l0_6 x13_1).f0), .string ((rd_T33 l0_6 x13_1).f1), .string ((rd_T33 l0_6 x13_1).f2), .string ((rd_T33 l0_6 x13_1).f3), .slice A236_4 ((rd_T33 l0_6 x13_1).f4).length c236_4, .slice A236_5 ((rd_T33 l0_6 x13_1).f5).length c236_5, .slice A236_6 ((rd_T33 l0_6 x13_1).f6).length c236_6, .string ((rd_T33 l0_6 x13_1).f7)]] rfl (by (try simp only [List.map_toArray, List.map_cons, List.map_nil]); first | done | rfl | (simp only [List.length_drop, List.length_take]; rfl)) ?_; (with_reducible refine (ih k1 (by have := HK1.out; omega) ((rd_T33 l0_6 x13_1).f0) ((rd_T33 l0_6 x13_1).f1) ((rd_T33 l0_6 x13_1).f2) ((rd_T33 l0_6 x13_1).f3) _ _ ((rd_T33 l0_6 x13_1).f4) _ _ ((rd_T33 l0_6 x13_1).f5) _ _ ((rd_T33 l0_6 x13_1).f6) ((rd_T33 l0_6 x13_1).f7) t238 _ ?side1 ?side2 ?side3 ?side4 ?side5 ?side6 A7.out).mono ?_); (case side1 => exact Kd.C_below HR236_4.out (by repeat (first|(with_reducible first|exact HB.out|apply zA|apply zN|apply zD | refine below_set ?_ GE235.out | refine below_set ?_ GE237.out) | exact HB.out))); (case side2 => exact HC236_4.out); (case side3 => exact Kd.C_below HR236_5.out (by repeat (first|(with_reducible first|exact HB.out|apply zA|apply zN|apply zD | refine below_set ?_ GE235.out | refine below_set ?_ GE237.out) | exact HB.out))); (case side4 => exact HC236_5.out); (case side5 => exact Kd.C_below HR236_6.out (by repeat (first|(with_reducible first|exact HB.out|apply zA|apply zN|apply zD | refine below_set ?_ GE235.out | refine below_set ?_ GE237.out) | exact HB.out))); (case side6 => exact HC236_6.out); rintro e w11 ⟨rfl, hb⟩; refine ⟨_, rfl, ?_⟩; replace BK235 := Aside0.mk (blk_below (g := gb235) (by (with_reducible repeat (first | refine bN ?_ _|refine bD ?_|refine bA ?_ _)); exact pfa8 (hn := NB235_237.out) (by (with_reducible repeat (first | refine bN ?_ _|refine bD ?_|refine bA ?_ _)); exact BK235.out)) hb); replace BK237 := Aside0.mk (blk_below (g := gb237) (by (with_reducible repeat (first | refine bN ?_ _|refine bD ?_|refine bA ?_ _)); exact put8 (by (with_reducible repeat (first | refine bN ?_ _|refine bD ?_|refine bA ?_ _)); exact BK237.out)) hb); replace HB := Aside0.mk (below_step (by repeat (first|(with_reducible first|exact HB.out|apply zA|apply zN|apply zD | refine below_set ?_ GE235.out | refine below_set ?_ GE237.out) | exact HB.out)) hb); (try clear hb); (try clear hb2); (try clear hk); (try clear hi)))
      go_roundg k1
      case measure => have := HK1.out; omega
      case rel => exact ⟨(wrap64 (x3_1 + t238)), (wrap64 (x13_1 + 1)), rG, rG, H', ⟨by have := HK1.out; omega⟩, ⟨by (with_reducible repeat (first | refine bN ?_ _|refine bD ?_|refine bA ?_ _)); exact BK235.out⟩, ⟨by repeat (first|(with_reducible first|exact HB.out|apply zA|apply zN|apply zD | refine below_set ?_ GE235.out | refine below_set ?_ GE237.out) | exact HB.out)⟩⟩
     ·rw [if_neg c6] at H
      exact absurd H (by simp)
    ·rw [if_neg c5] at H
     exact absurd H (by simp)
   ·rw [if_neg c4] at H
    have c4b0 : decide (x13_1 < (l0_6.length : Int)) = false := decide_eq_false c4
    clear c4
    obtain rfl := Option.some.inj H
    go_wp2
    go_ret
    exact ⟨rE, by repeat (first|(with_reducible first|exact HB.out|apply zA|apply zN|apply zD | refine below_set ?_ GE235.out) | exact HB.out)⟩

/-! ### impl_in: function 90 -/
def impl_in.f (a0 : Int) (a1 : Int) (a2 : Int) : Option (Bool) := if a0 ≥ a1 then (some (decide (a0 ≤ a2))) else (some false)
set_option maxHeartbeats 8000000 in
set_option maxRecDepth 100000 in
theorem impl_in.calls (a0 : Int) (a1 : Int) (a2 : Int) (r : Bool) (w : World) (h : impl_in.f a0 a1 a2 = some r) :
  Calls Tryd.prog 90 #[.int .i64 a0, .int .i64 a1, .int .i64 a2] w fun e w' => e = .returned (.bool r) ∧ Drawn0 w w' := by
 have H : (if a0 ≥ a1 then (some (decide (a0 ≤ a2))) else (some false)) = some r := h
 clear h
 by_cases c4 : a0 ≥ a1
 ·rw [if_pos c4] at H
  have c4b0 : decide (a1 ≤ a0) = true := decide_eq_true c4
  clear c4
  obtain rfl := Option.some.inj H
  go_enter Tryd.func90, Tryd.ntmps90
  go_wp2
  go_ret
  exact ⟨by first | rfl | (simp; done) | (simp [*]; done), by repeat (first | exact Drawn0.refl _ | apply Drawn0.step)⟩
 ·rw [if_neg c4] at H
  have c4b0 : decide (a1 ≤ a0) = false := decide_eq_false c4
  clear c4
  obtain rfl := Option.some.inj H
  go_enter Tryd.func90, Tryd.ntmps90
  go_wp2
  go_ret
  exact ⟨by first | rfl | (simp; done) | (simp [*]; done), by repeat (first | exact Drawn0.refl _ | apply Drawn0.step)⟩

/-! ### utf8_DecodeRuneInString: function 112 -/
def utf8_DecodeRuneInString.f (a0 : ByteArray) : Option (Int × Int) := some (((Lib.decodeGo a0).1 : Int), ((Lib.decodeGo a0).2 : Int))
theorem utf8_DecodeRuneInString.calls (a0 : ByteArray) (r1 : Int) (r2 : Int) (w : World) (hTab : Tabs w) (h : utf8_DecodeRuneInString.f a0 = some (r1, r2)) :
    Calls Tryd.prog 112 #[.string a0] w fun e w' => e = .returned (.tuple #[.int .i32 r1, .int .i64 r2]) ∧ Below w.heap.size w w' := by
  unfold utf8_DecodeRuneInString.f at h
  simp only [Option.some.injEq, Prod.mk.injEq] at h
  obtain ⟨rfl, rfl⟩ := h
  exact Tryd.utf8_DecodeRuneInString a0 w hTab.u8

/-! ### impl_SignAt: function 87 -/
def impl_SignAt.f (a0 : ByteArray) (a1 : Int) : Option (Int × Int × Bool) := (impl_in.f a1 0 (wrap64 ((a0.size : Int) - 1))).bind fun t239 => (if t239 = true then (if 0 ≤ a1 then (if a1 ≤ (a0.size : Int) then ((utf8_DecodeRuneInString.f (a0.extract (a1 : Int).toNat a0.size)).bind fun bt240 => (if bt240.1 = 65533 then (if bt240.2 ≤ 1 then (some (0, 0, false)) else (some (wrap64 (bt240.1), wrap64 (a1 + bt240.2), true))) else (some (wrap64 (bt240.1), wrap64 (a1 + bt240.2), true)))) else (none)) else (none)) else (some (0, 0, false)))
set_option maxHeartbeats 8000000 in
set_option maxRecDepth 100000 in
theorem impl_SignAt.calls (a0 : ByteArray) (a1 : Int) (r1 : Int) (r2 : Int) (r3 : Bool) (w : World) (hTab : Tabs w) (h : impl_SignAt.f a0 a1 = some (r1, r2, r3)) :
  Calls Tryd.prog 87 #[.string a0, .int .i64 a1] w fun e w' => e = .returned (.tuple #[.int .i64 r1, .int .i64 r2, .bool r3]) ∧ Below w.heap.size w w' := by
 have HT := Aside0.mk hTab
 clear hTab
 have HB := Aside0.mk (Below.refl w.heap.size w)
 have H : ((impl_in.f a1 0 (wrap64 ((a0.size : Int) - 1))).bind fun t239 => (if t239 = true then (if 0 ≤ a1 then (if a1 ≤ (a0.size : Int) then ((utf8_DecodeRuneInString.f (a0.extract (a1 : Int).toNat a0.size)).bind fun bt240 => (if bt240.1 = 65533 then (if bt240.2 ≤ 1 then (some (0, 0, false)) else (some (wrap64 (bt240.1), wrap64 (a1 + bt240.2), true))) else (some (wrap64 (bt240.1), wrap64 (a1 + bt240.2), true)))) else (none)) else (none)) else (some (0, 0, false)))) = some (r1, r2, r3) := h
 clear h
 replace H := Option.bind_eq_some_iff.mp H
 obtain ⟨t239, A30, H⟩ := H
 try dsimp only at H
 have A3 := Aside0.mk A30
 clear A30
 go_enter Tryd.func87, Tryd.ntmps87
 go_wp2_with (first | ((with_reducible refine gate_callee (f := 90) rfl ?_); refine goesL_ (some 13) rfl rfl Tryd.func90 (by kernel_rfl) rfl #[.int .i64 a1, .int .i64 0, .int .i64 (wrap64 ((a0.size : Int) - 1))] rfl (by (try simp only [List.map_toArray, List.map_cons, List.map_nil]); first | done | rfl | (simp only [List.length_drop, List.length_take]; rfl)) ?_; (with_reducible refine (impl_in.calls a1 0 (wrap64 ((a0.size : Int) - 1)) t239 _ A3.out).mono ?_); rintro e w' ⟨rfl, ⟨nd, rfl⟩⟩; refine ⟨_, rfl, ?_⟩; refine halt_ ?_; intro q_ hq_))
 obtain ⟨rfl⟩ := hq_
 by_cases c4 : t239 = true
 ·subst c4
  rw [if_pos rfl] at H
  by_cases c5 : 0 ≤ a1
  ·rw [if_pos c5] at H
   have c5b0 := eq_true c5
   have c5b1 : decide (0 ≤ a1) = true := decide_eq_true c5
   clear c5
   by_cases c6 : a1 ≤ (a0.size : Int)
   ·rw [if_pos c6] at H
    have c6b0 := eq_true c6
    have c6b1 : decide (a1 ≤ (a0.size : Int)) = true := decide_eq_true c6
    clear c6
    replace H := Option.bind_eq_some_iff.mp H
    obtain ⟨⟨t240, t241⟩, A70, H⟩ := H
    try dsimp only at H
    have A7 := Aside0.mk A70
    clear A70
    go_wp2_with (first | ((with_reducible refine gate_callee (f := 112) rfl ?_); refine goesL_ (some 19) rfl rfl Tryd.func112 (by kernel_rfl) rfl #[.string (a0.extract (a1 : Int).toNat a0.size)] rfl (by (try simp only [List.map_toArray, List.map_cons, List.map_nil]); first | done | rfl | (simp only [List.length_drop, List.length_take]; rfl)) ?_; (with_reducible refine (utf8_DecodeRuneInString.calls (a0.extract (a1 : Int).toNat a0.size) t240 t241 _ ?tabs A7.out).mono ?_); (case tabs => first | exact Tabs.below HT.out (by repeat (first|(with_reducible first|exact HB.out|apply zA|apply zN|apply zD) | exact HB.out)) | (repeat (first | exact HT.out | (with_reducible refine Tabs.drewN ?_ _) | (with_reducible refine Tabs.drew ?_) | (with_reducible refine Tabs.alloc ?_ _)))); rintro e w8 ⟨rfl, hb⟩; refine ⟨_, rfl, ?_⟩; replace HB := Aside0.mk (below_step (by repeat (first|(with_reducible first|exact HB.out|apply zA|apply zN|apply zD) | exact HB.out)) hb); (try clear hb); (try clear hb2); (try clear hk); (try clear hi); refine halt_ ?_; intro q_ hq_))
    obtain ⟨rfl⟩ := hq_
    by_cases c9 : t240 = 65533
    ·rw [if_pos c9] at H
     have c9b0 : (t240 == 65533) = true := beq_iff_eq.mpr c9
     have c9b1 : (t240 != 65533) = false := bne_eq_false_iff_eq.mpr c9
     clear c9
     by_cases c10 : t241 ≤ 1
     ·rw [if_pos c10] at H
      have c10b0 : decide (t241 ≤ 1) = true := decide_eq_true c10
      clear c10
      simp only [Option.some.injEq, Prod.mk.injEq] at H
      obtain ⟨rfl, rfl, rfl⟩ := H
      go_wp2
      go_ret3
      exact ⟨rE, by repeat (first|(with_reducible first|exact HB.out|apply zA|apply zN|apply zD) | exact HB.out)⟩
     ·rw [if_neg c10] at H
      have c10b0 : decide (t241 ≤ 1) = false := decide_eq_false c10
      clear c10
      simp only [Option.some.injEq, Prod.mk.injEq] at H
      obtain ⟨rfl, rfl, rfl⟩ := H
      go_wp2
      go_ret3
      exact ⟨rE, by repeat (first|(with_reducible first|exact HB.out|apply zA|apply zN|apply zD) | exact HB.out)⟩
    ·rw [if_neg c9] at H
     have c9b0 : (t240 == 65533) = false := beq_eq_false_iff_ne.mpr c9
     have c9b1 : (t240 != 65533) = true := bne_iff_ne.mpr c9
     simp only [Option.some.injEq, Prod.mk.injEq] at H
     obtain ⟨rfl, rfl, rfl⟩ := H
     go_wp2
     go_ret3
     exact ⟨rE, by repeat (first|(with_reducible first|exact HB.out|apply zA|apply zN|apply zD) | exact HB.out)⟩
   ·rw [if_neg c6] at H
    exact absurd H (by simp)
  ·rw [if_neg c5] at H
   exact absurd H (by simp)
 ·replace c4 := Bool.eq_false_iff.mpr c4
  subst c4
  rw [if_neg (show ¬ (false = true) by decide)] at H
  simp only [Option.some.injEq, Prod.mk.injEq] at H
  obtain ⟨rfl, rfl, rfl⟩ := H
  go_wp2
  go_ret3
  exact ⟨rE, by repeat (first|(with_reducible first|exact HB.out|apply zA|apply zN|apply zD) | exact HB.out)⟩

/-! ### impl_inAny: function 113 -/
def impl_inAny.enc (p : Int × Int) : List Value := [.int .i64 p.1, .int .i64 p.2]
def impl_inAny.has (n : Int) (p : Int × Int) : Bool := decide (p.1 ≤ n) && decide (n ≤ p.2)
theorem impl_inAny.in_f (n lo hi : Int) : impl_in.f n lo hi = some (decide (lo ≤ n) && decide (n ≤ hi)) := by
  unfold impl_in.f
  by_cases h : n ≥ lo
  · rw [if_pos h]
    simp [h]
  · rw [if_neg h]
    have : ¬ lo ≤ n := h
    simp [this]
theorem impl_inAny.lit (n lo hi : Int) (B : Nat) (W : World) (hc : W.cell? ⟨B, 0, none⟩ = some (.int .i64 n)) :
    Calls Tryd.prog 124 #[.agg #[.int .i64 lo, .int .i64 hi], .pointer (some ⟨B, 0, none⟩)] W fun e w' => e = .returned (.bool (impl_inAny.has n (lo, hi))) ∧ Below W.heap.size W w' := by
  have hB : B < W.heap.size := World.block_lt_of_cell? W _ hc
  go_enter Tryd.func124, Tryd.ntmps124
  go_wp2_with (go_at_call 90; refine (impl_in.calls _ _ _ _ _ (impl_inAny.in_f _ _ _)).mono ?_; rintro e w' ⟨rfl, ⟨nd, rfl⟩⟩)
  go_ret
  exact ⟨rfl, pw_below_drewN (below_alloc (Below.refl _ _) _) _⟩
set_option maxHeartbeats 2000000 in
theorem impl_inAny.index (n : Int) (zs : List (Int × Int)) (b off c B : Nat) (w : World) (hn : zs.length ≤ 1000) (hb : b < w.heap.size) (hB : B < w.heap.size) (hc : w.cell? ⟨B, 0, none⟩ = some (.int .i64 n))
    (hz : ∀ j (p : Int × Int), zs[j]? = some p → w.cell? ⟨b, off + j * 2, none⟩ = some (.int .i64 p.1) ∧ w.cell? ⟨b, off + j * 2 + 1, none⟩ = some (.int .i64 p.2)) :
    Calls Tryd.prog 130 #[.slice (some ⟨b, off, none⟩) zs.length c, .func (.func 124) #[] #[.pointer (some ⟨B, 0, none⟩)]] w
      fun e w' => ∃ i : Int, e = .returned (.int .i64 i) ∧ decide (0 ≤ i) = zs.any (impl_inAny.has n) ∧ Below w.heap.size w w' := by
  have HZ := Aside0.mk hz
  have HC := Aside0.mk hc
  clear hz hc
  have eg : ∀ args w, (callFunc 124 args).run Tryd.prog w = .ok (.enter 124 args) w := enters_of Tryd.func124 (by kernel_rfl) rfl
  go_enter Tryd.func130, Tryd.ntmps130
  go_wp2
  go_loopg [5, 8] zs.length (fun gg _ s8 wr => ∃ kk : Nat, kk ≤ zs.length ∧ zs.length - kk ≤ gg ∧ s8 = .int .i64 kk ∧ Aside0 (Below w.heap.size w wr) ∧ Aside0 (∀ j p, j < kk → zs[j]? = some p → impl_inAny.has n p = false))
  case atStart => exact ⟨0, Nat.zero_le _, by omega, rfl, ⟨Below.refl _ w⟩, ⟨fun j p hj => absurd hj (Nat.not_lt_zero _)⟩⟩
  case round =>
    obtain ⟨kk, hkk, hg, rfl, BW, A⟩ := hrel
    by_cases hlt : kk < zs.length
    · have hltz : (kk : Int) < (zs.length : Int) := by omega
      obtain ⟨⟨lo, hi⟩, hp⟩ : ∃ p, zs[kk]? = some p := ⟨zs[kk], List.getElem?_eq_getElem hlt⟩
      have z1 : wr.cell? ⟨b, off + kk * 2, none⟩ = some (.int .i64 lo) := (BW.out.cell (p := ⟨b, off + kk * 2, none⟩) hb).trans (HZ.out kk _ hp).1
      have z2 : wr.cell? ⟨b, off + kk * 2 + 1, none⟩ = some (.int .i64 hi) := (BW.out.cell (p := ⟨b, off + kk * 2 + 1, none⟩) hb).trans (HZ.out kk _ hp).2
      have hcall := impl_inAny.lit n lo hi B wr ((BW.out.cell (p := ⟨B, 0, none⟩) hB).trans HC.out)
      have HP := Aside0.mk hp
      clear hp
      cases hq : impl_inAny.has n (lo, hi) with
      | true =>
        rw [hq] at hcall
        have HQ := Aside0.mk hq
        clear hq
        go_wp2_with (go_at_fn 124; refine hcall.mono ?_; rintro e w' ⟨rfl, hb'⟩)
        go_ret
        refine ⟨(kk : Int), rfl, ?_, BW.out.trans (hb'.mono BW.out.size)⟩
        have : zs.any (impl_inAny.has n) = true := List.any_eq_true.2 ⟨(lo, hi), List.mem_of_getElem? HP.out, HQ.out⟩
        rw [this]
        exact decide_eq_true (by omega)
      | false =>
        rw [hq] at hcall
        have HQ := Aside0.mk hq
        clear hq
        go_wp2_with (go_at_fn 124; refine hcall.mono ?_; rintro e w' ⟨rfl, hb'⟩)
        go_roundg (zs.length - (kk + 1))
        case measure => omega
        case rel =>
          refine ⟨kk + 1, by omega, by omega, by go_num, ⟨BW.out.trans (hb'.mono BW.out.size)⟩, ⟨fun j p hj hp => ?_⟩⟩
          by_cases e : j = kk
          · subst e
            rw [HP.out] at hp
            cases hp
            exact HQ.out
          · exact A.out j p (by omega) hp
    · have hltz : ¬ (kk : Int) < (zs.length : Int) := by omega
      have : kk = zs.length := by omega
      subst this
      go_wp2
      go_ret
      refine ⟨-1, rfl, ?_, BW.out⟩
      have : zs.any (impl_inAny.has n) = false := by
        rw [List.any_eq_false]
        intro p hp
        obtain ⟨j, hj⟩ := List.getElem?_of_mem hp
        rw [A.out j p (List.getElem?_eq_some_iff.1 hj).1 hj]
        simp
      rw [this]
      rfl
theorem impl_inAny.contains (n : Int) (zs : List (Int × Int)) (b off c B : Nat) (w : World) (hn : zs.length ≤ 1000) (hb : b < w.heap.size) (hB : B < w.heap.size) (hc : w.cell? ⟨B, 0, none⟩ = some (.int .i64 n))
    (hz : ∀ j (p : Int × Int), zs[j]? = some p → w.cell? ⟨b, off + j * 2, none⟩ = some (.int .i64 p.1) ∧ w.cell? ⟨b, off + j * 2 + 1, none⟩ = some (.int .i64 p.2)) :
    Calls Tryd.prog 123 #[.slice (some ⟨b, off, none⟩) zs.length c, .func (.func 124) #[] #[.pointer (some ⟨B, 0, none⟩)]] w
      fun e w' => e = .returned (.bool (zs.any (impl_inAny.has n))) ∧ Below w.heap.size w w' := by
  have h := impl_inAny.index n zs b off c B w hn hb hB hc hz
  clear hz hc
  generalize zs.any (impl_inAny.has n) = r at h ⊢
  go_enter Tryd.func123, Tryd.ntmps123
  go_wp2_with (go_at_call 130; refine h.mono ?_; rintro e w' ⟨i, rfl, hi, hb'⟩; have HI := Aside0.mk hi; clear hi)
  go_ret
  exact ⟨by rw [← HI.out]; rfl, hb'⟩
theorem impl_inAny.calls (n : Int) (zs : List (Int × Int)) (b off c : Nat) (w : World) (hn : zs.length ≤ 1000) (hb : b < w.heap.size)
    (hz : ∀ j (p : Int × Int), zs[j]? = some p → w.cell? ⟨b, off + j * 2, none⟩ = some (.int .i64 p.1) ∧ w.cell? ⟨b, off + j * 2 + 1, none⟩ = some (.int .i64 p.2)) :
    Calls Tryd.prog 113 #[.int .i64 n, .slice (some ⟨b, off, none⟩) zs.length c] w
      fun e w' => e = .returned (.bool (zs.any (impl_inAny.has n))) ∧ Below w.heap.size w w' := by
  have h := fun (W : World) (hB : w.heap.size < W.heap.size) (hc : W.cell? ⟨w.heap.size, 0, none⟩ = some (.int .i64 n)) (hW : Below w.heap.size w W) =>
    impl_inAny.contains n zs b off c w.heap.size W hn (by omega) hB hc (fun j p hj => ⟨(hW.cell (p := ⟨b, off + j * 2, none⟩) hb).trans (hz j p hj).1, (hW.cell (p := ⟨b, off + j * 2 + 1, none⟩) hb).trans (hz j p hj).2⟩)
  clear hz
  generalize zs.any (impl_inAny.has n) = r at h ⊢
  go_enter Tryd.func113, Tryd.ntmps113
  go_wp2_with (go_at_call 123; refine (h _ (by simp) (by simp) (below_alloc (Below.refl _ _) _)).mono ?_; rintro e w' ⟨rfl, hb'⟩)
  go_ret
  exact ⟨rfl, (below_alloc (Below.refl _ _) _).trans (hb'.mono (by simp))⟩
theorem impl_inAny.cells_at (zs : List (Int × Int)) : ∀ (j : Nat) (p : Int × Int), zs[j]? = some p → (zs.flatMap impl_inAny.enc)[j * 2]? = some (.int .i64 p.1) ∧ (zs.flatMap impl_inAny.enc)[j * 2 + 1]? = some (.int .i64 p.2) := by
  induction zs with
  | nil => intro j p h; simp at h
  | cons q zs ih =>
    intro j p h
    cases j with
    | zero =>
      simp at h
      subst h
      simp [impl_inAny.enc]
    | succ j =>
      have := ih j p (by simpa using h)
      rw [List.flatMap_cons, List.getElem?_append_right (by simp [impl_inAny.enc]; omega), List.getElem?_append_right (by simp [impl_inAny.enc]; omega)]
      have e1 : (j + 1) * 2 - (impl_inAny.enc q).length = j * 2 := by simp [impl_inAny.enc]; omega
      have e2 : (j + 1) * 2 + 1 - (impl_inAny.enc q).length = j * 2 + 1 := by simp [impl_inAny.enc]; omega
      rw [e1, e2]
      exact this
theorem impl_inAny.lit_calls {W : World} {B : Nat} (n : Int) (zs : List (Int × Int)) (w : World) (cs : Array Value) (T c N : Nat) (hcs : cs = (zs.flatMap impl_inAny.enc).toArray) (hN : N = zs.length) (hn : zs.length ≤ 1000) (hW : W = w.alloc (.cells cs T)) (hs : B = w.heap.size) :
    Calls Tryd.prog 113 #[.int .i64 n, .slice (some ⟨B, 0, none⟩) N c] W
      fun e w' => e = .returned (.bool (zs.any (impl_inAny.has n))) ∧ Below w.heap.size w w' := by
  subst hcs hN hW hs
  refine (impl_inAny.calls n zs w.heap.size 0 c _ hn (by simp) (fun j p hj => ?_)).mono fun e w' ⟨he, hb⟩ => ⟨he, (below_alloc (Below.refl _ _) _).trans (hb.mono (by simp))⟩
  have := impl_inAny.cells_at zs j p hj
  rw [Nat.zero_add, World.cell?_alloc_at _ _ _ _ rfl, World.cell?_alloc_at _ _ _ _ rfl]
  simpa using this

/-! ### impl_IsSign: function 118 -/
def impl_IsSign.l : List (Int × Int) := [(9, 10), (13, 13), (32, 55295), (57344, 65533), (65536, 1114111)]
def impl_IsSign.f (a0 : Int) : Option Bool := some (impl_IsSign.l.any (impl_inAny.has a0))
set_option maxHeartbeats 2000000 in
theorem impl_IsSign.calls (a0 : Int) (r : Bool) (w : World) (h : impl_IsSign.f a0 = some r) : Calls Tryd.prog 118 #[.int .i64 a0] w fun e w' => e = .returned (.bool r) ∧ Below w.heap.size w w' := by
  have h' : impl_IsSign.l.any (impl_inAny.has a0) = r := Option.some.inj h
  have HR := Aside0.mk h'
  clear h h'
  go_enter Tryd.func118, Tryd.ntmps118
  go_wp2_with (go_at_call 113; refine (impl_inAny.lit_calls a0 impl_IsSign.l w _ _ _ _ (by rfl) (by rfl) (by decide) (by rfl) (by rfl)).mono ?_; rintro e w' ⟨rfl, hb⟩)
  go_ret
  exact ⟨by rw [← HR.out]; rfl, hb⟩

/-! ### impl_signsOk: function 106 -/
def impl_signsOk.l0 : Nat → ByteArray → Int → Option (Bool)
 | 0, _, _ => none
 | k + 1, x0, x3 => if x3 < (x0.size : Int) then ((impl_SignAt.f x0 x3).bind fun bt242 => (if bt242.2.2 = true then ((impl_IsSign.f bt242.1).bind fun t245 => (if t245 = true then (impl_signsOk.l0 k x0 bt242.2.1) else (some false))) else (some false))) else (some true)
def impl_signsOk.f (k : Nat) (a0 : ByteArray) : Option (Bool) := impl_signsOk.l0 k a0 0
theorem impl_signsOk.mono_l : ∀ k, (∀ y0 y1, LeO (impl_signsOk.l0 k y0 y1) (impl_signsOk.l0 (k + 1) y0 y1))
 | 0 => fun _ _ r h => by simp [impl_signsOk.l0] at h
 | k + 1 => by
  have ih0 := impl_signsOk.mono_l k
  ·intro y0 y1
   unfold impl_signsOk.l0
   repeat' first
   | (with_reducible exact ih0 _ _)
   | (with_reducible exact LeO.refl _)
   | (with_reducible exact LeO.none _)
   | (with_reducible refine LeO.ite ?_ ?_)
   | (with_reducible refine LeO.bind ?_ (fun _ => ?_))
   | exact ih0 _ _
   | exact LeO.none _
   | refine LeO.ite ?_ ?_
   | refine LeO.bind ?_ (fun _ => ?_)
theorem impl_signsOk.mono : ∀ a0 k, LeO (impl_signsOk.f k a0) (impl_signsOk.f (k + 1) a0) := by
 intro a0 k
 have ih0 := impl_signsOk.mono_l k
 unfold impl_signsOk.f
 repeat' first
   | (with_reducible exact ih0 _ _)
   | (with_reducible exact LeO.refl _)
   | (with_reducible exact LeO.none _)
   | (with_reducible refine LeO.ite ?_ ?_)
   | (with_reducible refine LeO.bind ?_ (fun _ => ?_))
   | exact ih0 _ _
   | exact LeO.none _
   | refine LeO.ite ?_ ?_
   | refine LeO.bind ?_ (fun _ => ?_)
set_option maxHeartbeats 8000000 in
set_option maxRecDepth 100000 in
theorem impl_signsOk.calls (k : Nat) (a0 : ByteArray) (r : Bool) (w : World) (hTab : Tabs w) (h : impl_signsOk.f k a0 = some r) :
  Calls Tryd.prog 106 #[.string a0] w fun e w' => e = .returned (.bool r) ∧ Below w.heap.size w w' := by
 have HT := Aside0.mk hTab
 clear hTab
 have HB := Aside0.mk (Below.refl w.heap.size w)
 have H : (impl_signsOk.l0 k a0 0) = some r := h
 clear h
 have H' := Aside0.mk H
 clear H
 go_enter Tryd.func106, Tryd.ntmps106
 go_wp2
 go_loopg [3] k (fun kq v3 w' => ∃ (x3_1 : Int), v3 = .int .i64 x3_1 ∧ Aside0 (impl_signsOk.l0 kq a0 x3_1 = some r) ∧ Aside0 (kq ≤ k) ∧ Aside0 (Below w.heap.size w w'))
 case atStart => exact ⟨(0), rG, H', ⟨Nat.le_refl _⟩, ⟨by repeat (first|(with_reducible first|exact HB.out|apply zA|apply zN|apply zD) | exact HB.out)⟩⟩
 case round =>
  clear H'
  try clear c1
  obtain ⟨x3_1, rfl, HA, HK1, HB⟩ := hrel
  cases gk with
  | zero => exact absurd HA.out (by simp [impl_signsOk.l0])
  | succ k1 =>
   have H := HA.out
   clear HA
   simp only [impl_signsOk.l0] at H
   by_cases c2 : x3_1 < (a0.size : Int)
   ·rw [if_pos c2] at H
    have c2b0 : decide (x3_1 < (a0.size : Int)) = true := decide_eq_true c2
    clear c2
    replace H := Option.bind_eq_some_iff.mp H
    obtain ⟨⟨t242, t243, t244⟩, A30, H⟩ := H
    try dsimp only at H
    have A3 := Aside0.mk A30
    clear A30
    go_wp2_with (first | ((with_reducible refine gate_callee (f := 87) rfl ?_); refine goesL_ (some 14) rfl rfl Tryd.func87 (by kernel_rfl) rfl #[.string a0, .int .i64 x3_1] rfl (by (try simp only [List.map_toArray, List.map_cons, List.map_nil]); first | done | rfl | (simp only [List.length_drop, List.length_take]; rfl)) ?_; (with_reducible refine (impl_SignAt.calls a0 x3_1 t242 t243 t244 _ ?tabs A3.out).mono ?_); (case tabs => first | exact Tabs.below HT.out (by repeat (first|(with_reducible first|exact HB.out|apply zA|apply zN|apply zD) | exact HB.out)) | (repeat (first | exact HT.out | (with_reducible refine Tabs.drewN ?_ _) | (with_reducible refine Tabs.drew ?_) | (with_reducible refine Tabs.alloc ?_ _)))); rintro e w4 ⟨rfl, hb⟩; refine ⟨_, rfl, ?_⟩; replace HB := Aside0.mk (below_step (by repeat (first|(with_reducible first|exact HB.out|apply zA|apply zN|apply zD) | exact HB.out)) hb); (try clear hb); (try clear hb2); (try clear hk); (try clear hi); refine halt_ ?_; intro q_ hq_))
    obtain ⟨rfl⟩ := hq_
    by_cases c5 : t244 = true
    ·subst c5
     rw [if_pos rfl] at H
     replace H := Option.bind_eq_some_iff.mp H
     obtain ⟨t245, A60, H⟩ := H
     try dsimp only at H
     have A6 := Aside0.mk A60
     clear A60
     go_wp2_with (first | (go_at_call 118; (with_reducible refine (impl_IsSign.calls t242 t245 _ A6.out).mono ?_); rintro e w7 ⟨rfl, hb⟩; replace HB := Aside0.mk (below_step (by repeat (first|(with_reducible first|exact HB.out|apply zA|apply zN|apply zD) | exact HB.out)) hb); (try clear hb); (try clear hb2); (try clear hk); (try clear hi); refine halt_ ?_; intro q_ hq_))
     obtain ⟨rfl⟩ := hq_
     by_cases c8 : t245 = true
     ·subst c8
      rw [if_pos rfl] at H
      have H' := Aside0.mk H
      clear H
      go_wp2
      go_roundg k1
      case measure => have := HK1.out; omega
      case rel => exact ⟨(t243), rG, H', ⟨by have := HK1.out; omega⟩, ⟨by repeat (first|(with_reducible first|exact HB.out|apply zA|apply zN|apply zD) | exact HB.out)⟩⟩
     ·replace c8 := Bool.eq_false_iff.mpr c8
      subst c8
      rw [if_neg (show ¬ (false = true) by decide)] at H
      obtain rfl := Option.some.inj H
      go_wp2
      go_ret
      exact ⟨rE, by repeat (first|(with_reducible first|exact HB.out|apply zA|apply zN|apply zD) | exact HB.out)⟩
    ·replace c5 := Bool.eq_false_iff.mpr c5
     subst c5
     rw [if_neg (show ¬ (false = true) by decide)] at H
     obtain rfl := Option.some.inj H
     go_wp2
     go_ret
     exact ⟨rE, by repeat (first|(with_reducible first|exact HB.out|apply zA|apply zN|apply zD) | exact HB.out)⟩
   ·rw [if_neg c2] at H
    have c2b0 : decide (x3_1 < (a0.size : Int)) = false := decide_eq_false c2
    clear c2
    obtain rfl := Option.some.inj H
    go_wp2
    go_ret
    exact ⟨rE, by repeat (first|(with_reducible first|exact HB.out|apply zA|apply zN|apply zD) | exact HB.out)⟩

/-! ### impl_TextOk: function 83 -/
def impl_TextOk.f (k : Nat) (a0 : ByteArray) : Option (Bool) := if (a0.size : Int) ≤ 600 then ((impl_signsOk.f k a0).bind fun t246 => (some t246)) else (some false)
theorem impl_TextOk.mono : ∀ a0 k, LeO (impl_TextOk.f k a0) (impl_TextOk.f (k + 1) a0) := by
 intro a0 k
 unfold impl_TextOk.f
 repeat' first
   | (with_reducible exact impl_signsOk.mono _ _)
   | (with_reducible exact LeO.refl _)
   | (with_reducible exact LeO.none _)
   | (with_reducible refine LeO.ite ?_ ?_)
   | (with_reducible refine LeO.bind ?_ (fun _ => ?_))
   | exact impl_signsOk.mono _ _
   | exact LeO.none _
   | refine LeO.ite ?_ ?_
   | refine LeO.bind ?_ (fun _ => ?_)
set_option maxHeartbeats 8000000 in
set_option maxRecDepth 100000 in
theorem impl_TextOk.calls (k : Nat) (a0 : ByteArray) (r : Bool) (w : World) (hTab : Tabs w) (h : impl_TextOk.f k a0 = some r) :
  Calls Tryd.prog 83 #[.string a0] w fun e w' => e = .returned (.bool r) ∧ Below w.heap.size w w' := by
 have HT := Aside0.mk hTab
 clear hTab
 have HB := Aside0.mk (Below.refl w.heap.size w)
 have H : (if (a0.size : Int) ≤ 600 then ((impl_signsOk.f k a0).bind fun t246 => (some t246)) else (some false)) = some r := h
 clear h
 by_cases c2 : (a0.size : Int) ≤ 600
 ·rw [if_pos c2] at H
  have c2b0 : decide ((a0.size : Int) ≤ 600) = true := decide_eq_true c2
  have c2b1 : decide (a0.size ≤ 600) = true := decide_eq_true (by omega)
  clear c2
  replace H := Option.bind_eq_some_iff.mp H
  obtain ⟨t246, A30, H⟩ := H
  try dsimp only at H
  have A3 := Aside0.mk A30
  clear A30
  obtain rfl := Option.some.inj H
  go_enter Tryd.func83, Tryd.ntmps83
  go_wp2_with (first | (go_at_call 106; (with_reducible refine (impl_signsOk.calls k a0 t246 _ ?tabs A3.out).mono ?_); (case tabs => first | exact Tabs.below HT.out (by repeat (first|(with_reducible first|exact HB.out|apply zA|apply zN|apply zD) | exact HB.out)) | (repeat (first | exact HT.out | (with_reducible refine Tabs.drewN ?_ _) | (with_reducible refine Tabs.drew ?_) | (with_reducible refine Tabs.alloc ?_ _)))); rintro e w4 ⟨rfl, hb⟩; replace HB := Aside0.mk (below_step (by repeat (first|(with_reducible first|exact HB.out|apply zA|apply zN|apply zD) | exact HB.out)) hb); (try clear hb); (try clear hb2); (try clear hk); (try clear hi)))
  go_ret
  exact ⟨rE, by repeat (first|(with_reducible first|exact HB.out|apply zA|apply zN|apply zD) | exact HB.out)⟩
 ·rw [if_neg c2] at H
  have c2b0 : decide ((a0.size : Int) ≤ 600) = false := decide_eq_false c2
  have c2b1 : decide (a0.size ≤ 600) = false := decide_eq_false (by omega)
  clear c2
  obtain rfl := Option.some.inj H
  go_enter Tryd.func83, Tryd.ntmps83
  go_wp2
  go_ret
  exact ⟨rE, by repeat (first|(with_reducible first|exact HB.out|apply zA|apply zN|apply zD) | exact HB.out)⟩

/-! ### strings_Contains: function 107 -/
def strings_Contains.f (a0 a1 : ByteArray) : Option Bool := if a0.size < 4294967281 then some (Lib.contains a0.data.toList a1.data.toList) else none
theorem strings_Contains.calls (a0 a1 : ByteArray) (r : Bool) (w : World) (hTab : Tabs w) (h : strings_Contains.f a0 a1 = some r) :
    Calls Tryd.prog 107 #[.string a0, .string a1] w fun e w' => e = .returned (.bool r) ∧ Below w.heap.size w w' := by
  unfold strings_Contains.f at h
  split at h
  · rename_i hc
    cases h
    obtain ⟨m, hm⟩ := hTab.maxlen
    exact (Tryd.strings_Contains a0 a1 m w hc hm).mono fun e w' ⟨he, hw⟩ => ⟨he, by subst hw; exact Below.refl _ _⟩
  · cases h

/-! ### stringslite_HasSuffix: function 120 -/
def stringslite_HasSuffix.f (a0 : ByteArray) (a1 : ByteArray) : Option (Bool) := if (a0.size : Int) ≥ (a1.size : Int) then (if 0 ≤ (wrap64 ((a0.size : Int) - (a1.size : Int))) then (if (wrap64 ((a0.size : Int) - (a1.size : Int))) ≤ (a0.size : Int) then (some ((a0.extract ((wrap64 ((a0.size : Int) - (a1.size : Int))) : Int).toNat a0.size).toList == a1.toList)) else (none)) else (none)) else (some false)
set_option maxHeartbeats 8000000 in
set_option maxRecDepth 100000 in
theorem stringslite_HasSuffix.calls (a0 : ByteArray) (a1 : ByteArray) (r : Bool) (w : World) (h : stringslite_HasSuffix.f a0 a1 = some r) :
  Calls Tryd.prog 120 #[.string a0, .string a1] w fun e w' => e = .returned (.bool r) ∧ Drawn0 w w' := by
 have H : (if (a0.size : Int) ≥ (a1.size : Int) then (if 0 ≤ (wrap64 ((a0.size : Int) - (a1.size : Int))) then (if (wrap64 ((a0.size : Int) - (a1.size : Int))) ≤ (a0.size : Int) then (some ((a0.extract ((wrap64 ((a0.size : Int) - (a1.size : Int))) : Int).toNat a0.size).toList == a1.toList)) else (none)) else (none)) else (some false)) = some r := h
 clear h
 by_cases c3 : (a0.size : Int) ≥ (a1.size : Int)
 ·rw [if_pos c3] at H
  have c3b0 : decide ((a1.size : Int) ≤ (a0.size : Int)) = true := decide_eq_true c3
  have c3b1 : decide (a1.size ≤ a0.size) = true := decide_eq_true (Int.ofNat_le.mp c3)
  clear c3
  obtain ⟨ji4, hji4⟩ : ∃ j_ : Int, (wrap64 ((a0.size : Int) - (a1.size : Int))) = j_ := ⟨_, rfl⟩
  replace H : (if 0 ≤ (ji4) then (if (ji4) ≤ (a0.size : Int) then (some ((a0.extract ((ji4) : Int).toNat a0.size).toList == a1.toList)) else (none)) else (none)) = some r := by first | (rw [hji4] at H; exact H) | (simp only [hji4] at H ⊢; exact H)
  have hji4w : (IntKind.i64.wrap ((a0.size : Int) - (a1.size : Int))) = ji4 := (i64_w _).trans hji4
  by_cases c5 : 0 ≤ (ji4)
  ·rw [if_pos c5] at H
   have c5b0 := eq_true c5
   have c5b1 : decide (0 ≤ (ji4)) = true := decide_eq_true c5
   clear c5
   by_cases c6 : (ji4) ≤ (a0.size : Int)
   ·rw [if_pos c6] at H
    have c6b0 := eq_true c6
    have c6b1 : decide ((ji4) ≤ (a0.size : Int)) = true := decide_eq_true c6
    clear c6
    obtain rfl := Option.some.inj H
    go_enter Tryd.func120, Tryd.ntmps120
    go_wp2
    go_ret
    exact ⟨by first | rfl | (simp; done) | (simp only [← hji4] <;> (first | rfl | simp)) | (simp [*]; done), by repeat (first | exact Drawn0.refl _ | apply Drawn0.step)⟩
   ·rw [if_neg c6] at H
    exact absurd H (by simp)
  ·rw [if_neg c5] at H
   exact absurd H (by simp)
 ·rw [if_neg c3] at H
  have c3b0 : decide ((a1.size : Int) ≤ (a0.size : Int)) = false := decide_eq_false c3
  have c3b1 : decide (a1.size ≤ a0.size) = false := decide_eq_false (fun h => c3 (Int.ofNat_le.mpr h))
  clear c3
  obtain rfl := Option.some.inj H
  go_enter Tryd.func120, Tryd.ntmps120
  go_wp2
  go_ret
  exact ⟨by first | rfl | (simp; done) | (simp [*]; done), by repeat (first | exact Drawn0.refl _ | apply Drawn0.step)⟩

/-! ### strings_HasSuffix: function 108 -/
def strings_HasSuffix.f (a0 : ByteArray) (a1 : ByteArray) : Option (Bool) := (stringslite_HasSuffix.f a0 a1).bind fun t247 => (some t247)
set_option maxHeartbeats 8000000 in
set_option maxRecDepth 100000 in
theorem strings_HasSuffix.calls (a0 : ByteArray) (a1 : ByteArray) (r : Bool) (w : World) (h : strings_HasSuffix.f a0 a1 = some r) :
  Calls Tryd.prog 108 #[.string a0, .string a1] w fun e w' => e = .returned (.bool r) ∧ Drawn0 w w' := by
 have H : ((stringslite_HasSuffix.f a0 a1).bind fun t247 => (some t247)) = some r := h
 clear h
 replace H := Option.bind_eq_some_iff.mp H
 obtain ⟨t247, A30, H⟩ := H
 try dsimp only at H
 have A3 := Aside0.mk A30
 clear A30
 obtain rfl := Option.some.inj H
 go_enter Tryd.func108, Tryd.ntmps108
 go_wp2_with (first | ((with_reducible refine gate_callee (f := 120) rfl ?_); refine goesL_ (some 7) rfl rfl Tryd.func120 (by kernel_rfl) rfl #[.string a0, .string a1] rfl (by (try simp only [List.map_toArray, List.map_cons, List.map_nil]); first | done | rfl | (simp only [List.length_drop, List.length_take]; rfl)) ?_; (with_reducible refine (stringslite_HasSuffix.calls a0 a1 t247 _ A3.out).mono ?_); rintro e w' ⟨rfl, ⟨nd, rfl⟩⟩; refine ⟨_, rfl, ?_⟩))
 go_ret
 exact ⟨by first | rfl | (simp; done) | (simp [*]; done), by repeat (first | exact Drawn0.refl _ | apply Drawn0.step)⟩

/-! ### impl_noteOk: function 84 -/
def impl_noteOk.f (k : Nat) (a0 : ByteArray) : Option (Bool) := (impl_TextOk.f k a0).bind fun t248 => (if t248 = true then ((strings_Contains.f a0 (⟨#[45, 45]⟩ : ByteArray)).bind fun t249 => (if t249 = true then (some false) else ((strings_HasSuffix.f a0 (⟨#[45]⟩ : ByteArray)).bind fun t250 => (if t250 = true then (some false) else ((strings_Contains.f a0 (⟨#[13]⟩ : ByteArray)).bind fun t251 => (some (!t251))))))) else (some false))
theorem impl_noteOk.mono : ∀ a0 k, LeO (impl_noteOk.f k a0) (impl_noteOk.f (k + 1) a0) := by
 intro a0 k
 unfold impl_noteOk.f
 repeat' first
   | (with_reducible exact impl_TextOk.mono _ _)
   | (with_reducible exact LeO.refl _)
   | (with_reducible exact LeO.none _)
   | (with_reducible refine LeO.ite ?_ ?_)
   | (with_reducible refine LeO.bind ?_ (fun _ => ?_))
   | exact impl_TextOk.mono _ _
   | exact LeO.none _
   | refine LeO.ite ?_ ?_
   | refine LeO.bind ?_ (fun _ => ?_)
set_option maxHeartbeats 8000000 in
set_option maxRecDepth 100000 in
theorem impl_noteOk.calls (k : Nat) (a0 : ByteArray) (r : Bool) (w : World) (hTab : Tabs w) (h : impl_noteOk.f k a0 = some r) :
  Calls Tryd.prog 84 #[.string a0] w fun e w' => e = .returned (.bool r) ∧ Below w.heap.size w w' := by
 have HT := Aside0.mk hTab
 clear hTab
 have HB := Aside0.mk (Below.refl w.heap.size w)
 have H : ((impl_TextOk.f k a0).bind fun t248 => (if t248 = true then ((strings_Contains.f a0 (⟨#[45, 45]⟩ : ByteArray)).bind fun t249 => (if t249 = true then (some false) else ((strings_HasSuffix.f a0 (⟨#[45]⟩ : ByteArray)).bind fun t250 => (if t250 = true then (some false) else ((strings_Contains.f a0 (⟨#[13]⟩ : ByteArray)).bind fun t251 => (some (!t251))))))) else (some false))) = some r := h
 clear h
 replace H := Option.bind_eq_some_iff.mp H
 obtain ⟨t248, A20, H⟩ := H
 try dsimp only at H
 have A2 := Aside0.mk A20
 clear A20
 go_enter Tryd.func84, Tryd.ntmps84
 go_wp2_with (first | ((with_reducible refine gate_callee (f := 83) rfl ?_); refine goesL_ (some 4) rfl rfl Tryd.func83 (by kernel_rfl) rfl #[.string a0] rfl (by (try simp only [List.map_toArray, List.map_cons, List.map_nil]); first | done | rfl | (simp only [List.length_drop, List.length_take]; rfl)) ?_; (with_reducible refine (impl_TextOk.calls k a0 t248 _ ?tabs A2.out).mono ?_); (case tabs => first | exact Tabs.below HT.out (by repeat (first|(with_reducible first|exact HB.out|apply zA|apply zN|apply zD) | exact HB.out)) | (repeat (first | exact HT.out | (with_reducible refine Tabs.drewN ?_ _) | (with_reducible refine Tabs.drew ?_) | (with_reducible refine Tabs.alloc ?_ _)))); rintro e w3 ⟨rfl, hb⟩; refine ⟨_, rfl, ?_⟩; replace HB := Aside0.mk (below_step (by repeat (first|(with_reducible first|exact HB.out|apply zA|apply zN|apply zD) | exact HB.out)) hb); (try clear hb); (try clear hb2); (try clear hk); (try clear hi); refine halt_ ?_; intro q_ hq_))
 obtain ⟨rfl⟩ := hq_
 by_cases c4 : t248 = true
 ·subst c4
  rw [if_pos rfl] at H
  replace H := Option.bind_eq_some_iff.mp H
  obtain ⟨t249, A50, H⟩ := H
  try dsimp only at H
  have A5 := Aside0.mk A50
  clear A50
  go_wp2_with (first | (go_at_call 107; (with_reducible refine (strings_Contains.calls a0 (⟨#[45, 45]⟩ : ByteArray) t249 _ ?tabs A5.out).mono ?_); (case tabs => first | exact Tabs.below HT.out (by repeat (first|(with_reducible first|exact HB.out|apply zA|apply zN|apply zD) | exact HB.out)) | (repeat (first | exact HT.out | (with_reducible refine Tabs.drewN ?_ _) | (with_reducible refine Tabs.drew ?_) | (with_reducible refine Tabs.alloc ?_ _)))); rintro e w6 ⟨rfl, hb⟩; replace HB := Aside0.mk (below_step (by repeat (first|(with_reducible first|exact HB.out|apply zA|apply zN|apply zD) | exact HB.out)) hb); (try clear hb); (try clear hb2); (try clear hk); (try clear hi); refine halt_ ?_; intro q_ hq_))
  obtain ⟨rfl⟩ := hq_
  by_cases c7 : t249 = true
  ·subst c7
   rw [if_pos rfl] at H
   obtain rfl := Option.some.inj H
   go_wp2
   go_ret
   exact ⟨rE, by repeat (first|(with_reducible first|exact HB.out|apply zA|apply zN|apply zD) | exact HB.out)⟩
  ·replace c7 := Bool.eq_false_iff.mpr c7
   subst c7
   rw [if_neg (show ¬ (false = true) by decide)] at H
   replace H := Option.bind_eq_some_iff.mp H
   obtain ⟨t250, A80, H⟩ := H
   try dsimp only at H
   have A8 := Aside0.mk A80
   clear A80
   go_wp2_with (first | (go_at_call 108; (with_reducible refine (strings_HasSuffix.calls a0 (⟨#[45]⟩ : ByteArray) t250 _ A8.out).mono ?_); rintro e w' ⟨rfl, ⟨nd, rfl⟩⟩; refine halt_ ?_; intro q_ hq_))
   obtain ⟨rfl⟩ := hq_
   by_cases c9 : t250 = true
   ·subst c9
    rw [if_pos rfl] at H
    obtain rfl := Option.some.inj H
    go_wp2
    go_ret
    exact ⟨rE, by repeat (first|(with_reducible first|exact HB.out|apply zA|apply zN|apply zD) | exact HB.out)⟩
   ·replace c9 := Bool.eq_false_iff.mpr c9
    subst c9
    rw [if_neg (show ¬ (false = true) by decide)] at H
    replace H := Option.bind_eq_some_iff.mp H
    obtain ⟨t251, A100, H⟩ := H
    try dsimp only at H
    have A10 := Aside0.mk A100
    clear A100
    obtain rfl := Option.some.inj H
    go_wp2_with (first | (go_at_call 107; (with_reducible refine (strings_Contains.calls a0 (⟨#[13]⟩ : ByteArray) t251 _ ?tabs A10.out).mono ?_); (case tabs => first | exact Tabs.below HT.out (by repeat (first|(with_reducible first|exact HB.out|apply zA|apply zN|apply zD) | exact HB.out)) | (repeat (first | exact HT.out | (with_reducible refine Tabs.drewN ?_ _) | (with_reducible refine Tabs.drew ?_) | (with_reducible refine Tabs.alloc ?_ _)))); rintro e w11 ⟨rfl, hb⟩; replace HB := Aside0.mk (below_step (by repeat (first|(with_reducible first|exact HB.out|apply zA|apply zN|apply zD) | exact HB.out)) hb); (try clear hb); (try clear hb2); (try clear hk); (try clear hi)))
    go_ret
    exact ⟨rE, by repeat (first|(with_reducible first|exact HB.out|apply zA|apply zN|apply zD) | exact HB.out)⟩
 ·replace c4 := Bool.eq_false_iff.mpr c4
  subst c4
  rw [if_neg (show ¬ (false = true) by decide)] at H
  obtain rfl := Option.some.inj H
  go_wp2
  go_ret
  exact ⟨rE, by repeat (first|(with_reducible first|exact HB.out|apply zA|apply zN|apply zD) | exact HB.out)⟩

end Go.Proofs.YtlfjdaoibjjakaaDoor.PZ
