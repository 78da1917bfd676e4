-- Written by the session's program hprint.py, over the kit's print program. Lean checks it.
import Derived.Test.YtdbinpeglamnnaaPPx0
import Derived.Test.YtdbinpeglamnnaaPPx1
namespace Go.Proofs.Ytdbinpeglamnnaa.PP
open Go.RowKit Go.Proofs.YtdbinpeglamnnaaW.PrintWords Go.Proofs.YtdbinpeglamnnaaW.PrintLast Go.Proofs.YtdbinpeglamnnaaW.PrintMore
attribute [local go_sem] max2_int min2_int max_two min_two max_three min_three max_four min_four   -- for this text's walks alone
set_option linter.unusedVariables false
set_option linter.unusedSimpArgs false
set_option maxHeartbeats 8000000
set_option maxRecDepth 100000

/-! ### laws_toAttrS: function 39 -/
def laws_toAttrS.l0 : Nat → List (S87) → List (S90) → Int → Option ((List (S90)))
 | 0, _, _, _ => none
 | k + 1, x0, x3, x4 => if x4 < (x0.length : Int) then (if 0 ≤ x4 then ((laws_toAttr.f ((rd_T87 x0 x4).f0) ((rd_T87 x0 x4).f1) ((rd_T87 x0 x4).f2) ((rd_T87 x0 x4).f3)).bind fun bt161 => (if x4 < (x3.length : Int) then (laws_toAttrS.l0 k x0 (x3.set (x4 : Int).toNat (⟨bt161.1, bt161.2.1, bt161.2.2.1, bt161.2.2.2⟩ : S90)) (wrap64 (x4 + 1))) else (none))) else (none)) else (some x3)
def laws_toAttrS.f (k : Nat) (l0 : List (S87)) : Option ((List (S90))) := if 0 ≤ (l0.length : Int) then (if ((l0.length : Int) : Int).toNat ≤ 4398046511104 then (laws_toAttrS.l0 k l0 (List.replicate ((l0.length : Int) : Int).toNat z90) 0) else (none)) else (none)
theorem laws_toAttrS.mono_l : ∀ k, (∀ y0 y1 y2, LeO (laws_toAttrS.l0 k y0 y1 y2) (laws_toAttrS.l0 (k + 1) y0 y1 y2))
 | 0 => fun _ _ _ r h => by simp [laws_toAttrS.l0] at h
 | k + 1 => by
  have ih0 := laws_toAttrS.mono_l k
  ·intro y0 y1 y2
   unfold laws_toAttrS.l0
   repeat' first
   | (with_reducible exact ih0 _ _ _)
   | (with_reducible exact LeO.refl _)
   | (with_reducible exact LeO.none _)
   | (with_reducible refine LeO.ite ?_ ?_)
   | (with_reducible refine LeO.bind ?_ (fun _ => ?_))
   | exact ih0 _ _ _
   | exact LeO.none _
   | refine LeO.ite ?_ ?_
   | refine LeO.bind ?_ (fun _ => ?_)
theorem laws_toAttrS.mono : ∀ a0 k, LeO (laws_toAttrS.f k a0) (laws_toAttrS.f (k + 1) a0) := by
 intro a0 k
 have ih0 := laws_toAttrS.mono_l k
 unfold laws_toAttrS.f
 repeat' first
   | (with_reducible exact ih0 _ _ _)
   | (with_reducible exact LeO.refl _)
   | (with_reducible exact LeO.none _)
   | (with_reducible refine LeO.ite ?_ ?_)
   | (with_reducible refine LeO.bind ?_ (fun _ => ?_))
   | exact ih0 _ _ _
   | exact LeO.none _
   | refine LeO.ite ?_ ?_
   | refine LeO.bind ?_ (fun _ => ?_)
theorem laws_toAttrS.calls (k : Nat) (A0 : Option Addr) (c0 : Nat) (l0 : List (S87)) (r : List (S90)) (w : World) (hr0 : Kd.C k87 w A0 l0.length l0) (hc0 : l0.length ≤ c0) (h : laws_toAttrS.f k l0 = some r) :
  Calls Try.prog 39 #[.slice A0 l0.length c0] w fun e w' => ∃ v0_ : Value, e = .returned (v0_) ∧ Kd.R k90 90 w' w.heap.size (fun _ => True) v0_ r ∧ Below w.heap.size w w' := by
 have hu87 := Try.underlying87
 have hu90 := Try.underlying90
 have HR0 := Aside0.mk hr0
 have HC0 := Aside0.mk hc0
 clear hr0 hc0
 have HB := Aside0.mk (Below.refl w.heap.size w)
 have H : (if 0 ≤ (l0.length : Int) then (if ((l0.length : Int) : Int).toNat ≤ 4398046511104 then (laws_toAttrS.l0 k l0 (List.replicate ((l0.length : Int) : Int).toNat z90) 0) else (none)) else (none)) = some r := h
 clear h
 obtain ⟨c2, H⟩ := if_som H
 obtain ⟨c2b0, c2b1⟩ := fcT c2
 clear c2
 obtain ⟨c3, H⟩ := if_som H
 obtain ⟨c3b0, c3b1⟩ := fcT c3
 clear c3
 obtain ⟨y157, hy157⟩ : ∃ y_ : List (S90), y_ = (List.replicate ((l0.length : Int) : Int).toNat z90) := ⟨_, rfl⟩
 replace H : (laws_toAttrS.l0 k l0 y157 0) = some r := by first | (rw [hy157]; with_reducible exact H) | (have H2_ := (Option.bind_some _ _).symm.trans H; rw [hy157]; with_reducible exact H2_) | (have H2_ := (Option.bind_some _ _).symm.trans H; with_reducible exact H2_) | with_reducible exact H | (rw [hy157]; exact H) | exact H
 have Ny157 := Aside0.mk hy157
 clear hy157
 have H' := Aside0.mk H
 clear H
 go_enter Try.func39, Try.ntmps39
 go_wp2_with (first | ((with_reducible refine gate_dst (N := 7) rfl ?_); refine Kd.R_make k90 _ 90 rfl (N := 7) rfl 31 _ _ rfl (l0.length : Int) rfl rfl Try.underlying31 (.agg #[(.string ⟨#[]⟩), (.string ⟨#[]⟩), (.string ⟨#[]⟩), (.string ⟨#[]⟩)]) 64 info90 rfl (by decide) (by omega) z90 (ok := fun _ => True) (okp := fun _ => True) (k90_mkM _ _ _ z90 ) (fun _ hk => hk) trivial (odt) (Nat.le_trans (Nat.mul_le_mul_right _ (odt : (l0.length : Int).toNat ≤ 4398046511104)) (by omega)) (Below.refl _ _) (Nat.le_refl _) ?_; intro v158 w4 ho5 hb hg_ hnew_; clear hg_ hnew_; (first | rw [← Ny157.out] at ho5 | (simp only [Int.reduceToNat] at ho5; rw [← Ny157.out] at ho5)); have HO159 := Aside0.mk (Kd.R_lower ho5 (below_size hB)); replace HB := Aside0.mk (below_step hB hb); clear hb ho5))
 go_loopg [4] k (fun kq v4 w' => ∃ (x3_1 : List (S90)) (x4_1 : Int), v4 = .int .i64 x4_1 ∧ Aside0 (laws_toAttrS.l0 kq l0 x3_1 x4_1 = some r) ∧ Aside0 (kq ≤ k) ∧ Aside0 (Kd.R k90 90 w' w.heap.size (fun _ => True) v158 x3_1) ∧ Aside0 (Below w.heap.size w w'))
 case atStart => exact ⟨(y157), (0), rG, H', ⟨Nat.le_refl _⟩, ⟨by (with_reducible repeat (first|apply rA|apply rN|apply rD)); exact HO159.out⟩, ⟨hB⟩⟩
 case round =>
  clear H'
  try clear c3; try clear c3b1; try clear c3b0; try clear c2; try clear c2b1; try clear c2b0
  obtain ⟨x3_1, x4_1, rfl, HA, HK1, HO_3, HB⟩ := hrel
  cases gk with
  | zero => exact absurd HA.out (by simp [laws_toAttrS.l0])
  | succ k1 =>
   have H := HA.out
   clear HA
   simp only [laws_toAttrS.l0] at H
   by_cases c6 : x4_1 < (l0.length : Int)
   ·rw [if_pos c6] at H
    have c6b0 : decide (x4_1 < (l0.length : Int)) = true := decide_eq_true c6
    clear c6
    obtain ⟨c7, H⟩ := if_som H
    have c7b0 : decide (0 ≤ x4_1) = true := decide_eq_true c7
    clear c7
    replace H := Option.bind_eq_some_iff.mp H
    obtain ⟨⟨t161, t162, t163, t164⟩, A80, H⟩ := H
    try dsimp only at H
    have A8 := Aside0.mk A80
    clear A80
    have p160 : 0 ≤ (x4_1 : Int) := odt
    have q160 : x4_1 < (l0.length : Int) := odt
    obtain ⟨ad160, e160, hx160_0, hx160_1, hx160_2, hx160_3⟩ := at_T87 HR0.out x4_1 p160 q160
    cases e160
    replace hx160_0 := pw_cell_below HB.out hx160_0
    replace hx160_1 := pw_cell_below HB.out hx160_1
    replace hx160_2 := pw_cell_below HB.out hx160_2
    replace hx160_3 := pw_cell_below HB.out hx160_3
    replace p160 := eq_true p160
    replace q160 := eq_true q160
    go_wp2_with (first | ((with_reducible refine gate_callee (f := 65) rfl ?_); refine goesL_ (some 20) rfl rfl Try.func65 (by kernel_rfl) rfl #[.agg #[.string ((rd_T87 l0 x4_1).f0), .string ((rd_T87 l0 x4_1).f1), .string ((rd_T87 l0 x4_1).f2), .string ((rd_T87 l0 x4_1).f3)]] rfl mA ?_; (with_reducible refine (laws_toAttr.calls ((rd_T87 l0 x4_1).f0) ((rd_T87 l0 x4_1).f1) ((rd_T87 l0 x4_1).f2) ((rd_T87 l0 x4_1).f3) t161 t162 t163 t164 _ A8.out).mono ?_); rintro e w9 ⟨rfl, hb⟩; refine ⟨_, rfl, ?_⟩; replace HO_3 := Aside0.mk (Kd.R_below (by (with_reducible repeat (first|apply rA|apply rN|apply rD)); exact HO_3.out) hb); replace HB := Aside0.mk (below_step hB hb); (try clear hb); (try clear hb2); (try clear hk); (try clear hi); refine halt_ ?_; intro q_ hq_))
    obtain ⟨rfl⟩ := hq_
    obtain ⟨c10, H⟩ := if_som H
    have c10b0 : decide (x4_1 < (x3_1.length : Int)) = true := decide_eq_true c10
    clear c10
    obtain ⟨y165, hy165⟩ : ∃ y_ : List (S90), y_ = (x3_1.set (x4_1 : Int).toNat (⟨t161, t162, t163, t164⟩ : S90)) := ⟨_, rfl⟩
    replace H : (laws_toAttrS.l0 k1 l0 y165 (wrap64 (x4_1 + 1))) = some r := by first | (rw [hy165]; with_reducible exact H) | (have H2_ := (Option.bind_some _ _).symm.trans H; rw [hy165]; with_reducible exact H2_) | (have H2_ := (Option.bind_some _ _).symm.trans H; with_reducible exact H2_) | with_reducible exact H | (rw [hy165]; exact H) | exact H
    have Ny165 := Aside0.mk hy165
    clear hy165
    have H' := Aside0.mk H
    clear H
    have p11 : 0 ≤ (x4_1 : Int) := odt
    have q11 : (x4_1 : Int) < ((x3_1.length : Int) : Int) := odt
    obtain ⟨go11, co11, eo11, gb11, gl11, cl11, HG11⟩ := Kd.R_form HO_3.out (by omega)
    (first | cases eo11 | (injection eo11 with ea_ en_ ec_; (first | subst ea_ | (injection ea_ with ea_; subst ea_)); subst ec_; clear en_))
    have GB11 := Aside0.mk gb11
    have GG11 := Aside0.mk HG11
    clear gb11 gl11 HG11
    obtain ⟨ce11, hcl11, hM11, hcc11, hfr11⟩ := Kd.R_elem HO_3.out z90 (x4_1 : Int) p11 q11
    obtain rfl := k90_openM hM11
    have hx11_0 : w9.cell? ⟨go11, (x4_1 : Int).toNat * 4, none⟩ = some (.string ((rd_T90 x3_1 x4_1).f0)) := hcc11 0 _ rfl
    have hx11_1 : w9.cell? ⟨go11, (x4_1 : Int).toNat * 4 + 1, none⟩ = some (.string ((rd_T90 x3_1 x4_1).f1)) := hcc11 1 _ rfl
    have hx11_2 : w9.cell? ⟨go11, (x4_1 : Int).toNat * 4 + 2, none⟩ = some (.string ((rd_T90 x3_1 x4_1).f2)) := hcc11 2 _ rfl
    have hx11_3 : w9.cell? ⟨go11, (x4_1 : Int).toNat * 4 + 3, none⟩ = some (.string ((rd_T90 x3_1 x4_1).f3)) := hcc11 3 _ rfl
    have hf11_0 : w9.frozen? ⟨go11, (x4_1 : Int).toNat * 4, none⟩ = false := hfr11 0
    have hf11_1 : w9.frozen? ⟨go11, (x4_1 : Int).toNat * 4 + 1, none⟩ = false := hfr11 1
    have hf11_2 : w9.frozen? ⟨go11, (x4_1 : Int).toNat * 4 + 2, none⟩ = false := hfr11 2
    have hf11_3 : w9.frozen? ⟨go11, (x4_1 : Int).toNat * 4 + 3, none⟩ = false := hfr11 3
    clear hcl11 hcc11 hfr11 hM11
    replace p11 := eq_true p11
    replace q11 := eq_true q11
    have HX12 := Aside0.mk (show Kd.R k90 90 w9 w.heap.size (fun _ => True) (.slice (some ⟨go11, 0, none⟩) x3_1.length co11) x3_1 from (by (with_reducible repeat (first|apply rA|apply rN|apply rD)); exact HO_3.out))
    obtain ⟨ce12, hcl12, hM12, hcc12, hfr12⟩ := Kd.R_elem HX12.out z90 (x4_1 : Int) (odt) (by have h_ : (x4_1 : Int) < ((x3_1.length : Int) : Int) := odt; first | exact h_ | (have e_ := (Kd.R_reads' HO_3.out).1; omega) | simpa using h_)
    obtain rfl := k90_openM hM12
    have HP12 := Kd.R_seg HX12.out (x4_1 : Int) (odt) (by have h_ : (x4_1 : Int) < ((x3_1.length : Int) : Int) := odt; first | exact h_ | (have e_ := (Kd.R_reads' HO_3.out).1; omega) | simpa using h_) (seg := [.string t161, .string t162, .string t163, .string t164]) (j := 0) hcl12 hcc12 (show 4 ≤ 4 from by decide) (x' := (⟨t161, t162, t163, t164⟩ : S90)) (k90_mkM _ _ _ (⟨t161, t162, t163, t164⟩ : S90) ) (fun _ hk => hk)
    have hx12_0 := hcc12 0 _ rfl
    (try simp only [show (k90).sz = 4 from rfl, Nat.mul_one, Nat.add_zero] at hx12_0)
    have hf12_0 := hfr12 0
    (try simp only [show (k90).sz = 4 from rfl, Nat.mul_one, Nat.add_zero] at hf12_0)
    have hx12_1 := hcc12 1 _ rfl
    (try simp only [show (k90).sz = 4 from rfl, Nat.mul_one, Nat.add_zero] at hx12_1)
    have hf12_1 := hfr12 1
    (try simp only [show (k90).sz = 4 from rfl, Nat.mul_one, Nat.add_zero] at hf12_1)
    have hx12_2 := hcc12 2 _ rfl
    (try simp only [show (k90).sz = 4 from rfl, Nat.mul_one, Nat.add_zero] at hx12_2)
    have hf12_2 := hfr12 2
    (try simp only [show (k90).sz = 4 from rfl, Nat.mul_one, Nat.add_zero] at hf12_2)
    have hx12_3 := hcc12 3 _ rfl
    (try simp only [show (k90).sz = 4 from rfl, Nat.mul_one, Nat.add_zero] at hx12_3)
    have hf12_3 := hfr12 3
    (try simp only [show (k90).sz = 4 from rfl, Nat.mul_one, Nat.add_zero] at hf12_3)
    clear hcl12 hcc12 hfr12 hM12
    go_wp2_with (first | ((with_reducible refine gate_store (t := 90) (p := 21) rfl ?_); refine store_event (t := 90) (p := 21) (v := ?vo_w13) (w1 := ((((w9.setCell ⟨go11, (x4_1 : Int).toNat * 4, none⟩ (.string t161)).setCell ⟨go11, (x4_1 : Int).toNat * 4 + 1, none⟩ (.string t162)).setCell ⟨go11, (x4_1 : Int).toNat * 4 + 2, none⟩ (.string t163)).setCell ⟨go11, (x4_1 : Int).toNat * 4 + 3, none⟩ (.string t164))) ?hg ?ho ?hn ?hr ?_; (case ho => rfl); (case hg => rfl); (case hn => rfl); (case hr => first | (go_simp; done) | (go_simp; rfl)); intro w13 hw; have hg : w9.grownBy w13 (some go11) := (by rw [hw]; exact HP12.2); have hp_ : Kd.R k90 90 w13 w.heap.size (fun _ => True) (.slice (some ⟨go11, 0, none⟩) x3_1.length co11) y165 := (by rw [hw, Ny165.out]; exact HP12.1); clear HP12; replace HO_3 := Aside0.mk (hp_); replace HB := Aside0.mk ((by rw [hw]; exact below_set (below_set (below_set (below_set (HB.out) GB11.out) GB11.out) GB11.out) GB11.out : Below w.heap.size w w13)); clear hg hw hp_))
    go_roundg k1
    case measure => have := HK1.out; omega
    case rel => exact ⟨(y165), (wrap64 (x4_1 + 1)), rG, H', ⟨by have := HK1.out; omega⟩, ⟨by (with_reducible repeat (first|apply rA|apply rN|apply rD)); exact HO_3.out⟩, ⟨hB⟩⟩
   ·rw [if_neg c6] at H
    have c6b0 : decide (x4_1 < (l0.length : Int)) = false := decide_eq_false c6
    clear c6
    obtain rfl := Option.some.inj H
    go_wp2
    go_ret
    exact ⟨_, rE, by (with_reducible repeat (first|apply rA|apply rN|apply rD)); exact HO_3.out, hB⟩
-- laws_toNode: beside laws_toNodeS

/-! ### slices_Clone_int_int: function 66 -/
/-- slices.Clone: the same elements, in a row of their own (nil stays nil). -/
def slices_Clone_int_int.f (l0 : List Int) : Option (List Int) := if l0.length < 4398046511104 then some l0 else none
set_option maxHeartbeats 1000000 in
set_option maxRecDepth 100000 in
theorem slices_Clone_int_int.calls (A0 : Option Addr) (c0 : Nat) (l0 : List Int) (r : List Int) (w : World) (hr0 : Kd.C (Kd.int .i64) w A0 l0.length l0) (hc0 : l0.length ≤ c0) (h : slices_Clone_int_int.f l0 = some r) :
    Calls Try.prog 66 #[.slice A0 l0.length c0] w fun e w' => ∃ v0_ : Value, e = .returned (v0_) ∧ Kd.R (Kd.int .i64) 3 w' w.heap.size (fun _ => True) v0_ r ∧ Below w.heap.size w w' := by
  unfold slices_Clone_int_int.f at h
  by_cases hl : l0.length < 4398046511104
  · rw [if_pos hl] at h
    cases h
    cases A0 with
    | none =>
      have h0 : l0 = [] := by
        rcases Nat.eq_zero_or_pos l0.length with h0 | h0
        · exact List.eq_nil_of_length_eq_zero h0
        · obtain ⟨ad, e, _⟩ := hr0.2.2 h0
          cases e
      subst h0
      clear hr0 hc0 hl
      have hnil := fun W : World => Go.Lib.run_eql_slice_nil (P := Try.prog) W 47 3 none 0 c0 0 0 Try.underlying47
      go_enter Try.func66, Try.ntmps66
      go_wp2
      go_ret
      exact ⟨_, rfl, Kd.R_nil _ _ _ _ _, Below.refl _ _⟩
    | some ad =>
      have HR0 := Aside0.mk hr0
      clear hr0
      have hnil := fun W : World => Go.Lib.run_eql_slice_nil (P := Try.prog) W 47 3 (some ad) l0.length c0 0 0 Try.underlying47
      go_enter Try.func66, Try.ntmps66
      go_wp2_with (first
        | ((with_reducible refine gate_dst (N := 5) rfl ?_); refine Kd.R_lit (Kd.int .i64) (w0 := w) w.heap.size 3 ?hg (N := 5) ?hd (xs := ([] : List Int)) (inner := []) (ok := fun _ => True) (okp := fun _ => True) ?hr ?hp (fun _ hk => hk) trivial (Below.refl _ _) (Nat.le_refl _) (by simp) ?_; (case hd => rfl); (case hg => rfl); (case hr => first | (go_simp; done) | (go_simp; rfl)); (case hp => exact (Reps.none _ _)); intro v1 w1 h1 hb1 hg1 hn1)
        | (at_builtin; refine Kd.R_append_rows (Kd.int .i64) (w0 := w) w.heap.size rfl (.tmp 5) (.tmp 6) 47 3 (.int .i64 0) 8 rfl Try.underlying47 info3 rfl (by decide) (by omega) v1 [] l0 _ _ _ (fun _ => True) (fun _ => False) rfl rfl h1 (Kd.C_below HR0.out hb1) (fun _ _ h => h) (fun _ h => h.elim) (fun _ _ => trivial) hb1 (below_size hb1) (by simp; omega) ?_; intro v2 w2 h2 hb2 hg2 hat2))
      go_ret
      exact ⟨_, rfl, h2, hb2⟩
  · rw [if_neg hl] at h
    cases h

/-! ### slices_Grow_int_int: function 84 -/
/-- Grow of nil (as Concat calls it): a row without elements. -/
def slices_Grow_int_int.f (l0 : List Int) (a1 : Int) : Option (List Int) := if 0 ≤ a1 then (if a1 ≤ 549755813888 then some [] else none) else none
set_option maxHeartbeats 1000000 in
theorem slices_Grow_int_int.calls (A0 : Option Addr) (c0 : Nat) (l0 : List Int) (a1 : Int) (r : List Int) (w : World) (hr0 : Kd.C (Kd.int .i64) w A0 l0.length l0) (hc0 : l0.length ≤ c0) (h : slices_Grow_int_int.f l0 a1 = some r) :
    Calls Try.prog 84 #[.slice none 0 0, .int .i64 a1] w fun e w' => ∃ v0_ : Value, e = .returned (v0_) ∧ Kd.R (Kd.int .i64) 3 w' w.heap.size (fun _ => True) v0_ r ∧ Below w.heap.size w w' := by
  clear hr0 hc0
  unfold slices_Grow_int_int.f at h
  by_cases h0 : 0 ≤ a1
  · rw [if_pos h0] at h
    by_cases h1 : a1 ≤ 549755813888
    · rw [if_pos h1] at h
      cases h
      have hlt : ¬ a1 < 0 := by omega
      by_cases hz : a1 = 0
      · subst hz
        go_enter Try.func84, Try.ntmps84
        go_wp2
        go_ret
        exact ⟨_, rfl, Kd.R_nil _ _ _ _ _, Below.refl _ _⟩
      · have hgt : a1 > 0 := by omega
        obtain ⟨i0, hi0, _, hsz, _⟩ := info_parts info3
        have hcut0 := cut_to (P := Try.prog) 47 3 .i64 Try.underlying47 hi0 none 0 0 0 (by omega) (by omega) (by omega)
        go_enter Try.func84, Try.ntmps84
        go_wp2_with (at_builtin; refine Kd.R_append_zeros (Kd.int .i64) (w0 := w) w.heap.size rfl (.tmp 20) (.tmp 21) 47 3 3 (.int .i64 0) 8 rfl Try.underlying47 Try.underlying3 info3 rfl (by decide) (by omega) (.slice none 0 0) [] (0 : Int) (a1 : Int) (fun _ => True) rfl rfl rfl (fun _ _ => trivial) (Kd.R_nil _ _ _ _ _) (by omega) (Below.refl _ _) (Nat.le_refl _) (by simp; omega) ?_; intro v1 w1 h1 hb hg hat; obtain ⟨A1, c1, rfl, hc1, _⟩ := Kd.R_reads h1; have hr := Kd.R_take (m := 0) h1 (by omega); have hcut1 := cut_to (P := Try.prog) 47 3 .i64 Try.underlying47 hi0 A1 _ c1 0 (by omega) (by omega) hc1; have HR := Aside0.mk hr; clear hr h1 hg hat)
        go_ret
        exact ⟨_, rfl, HR.out, hb⟩
    · rw [if_neg h1] at h
      cases h
  · rw [if_neg h0] at h
    cases h

/-! ### slices_Concat_int_int: function 67 -/
mutual
def slices_Concat_int_int.l0 : Nat → List (List Int) → Int → List (List Int) → Int → Int → Option (List Int)
 | 0, _, _, _, _, _ => none
 | k + 1, x0, x3, x9, x10, x11 => if x11 < x10 then (if 0 ≤ x11 then (if x11 < (x9.length : Int) then (if (wrap64 (x3 + ((rd_L12 x9 x11).length : Int))) < 0 then (none) else (slices_Concat_int_int.l0 k x0 (wrap64 (x3 + ((rd_L12 x9 x11).length : Int))) x9 x10 (wrap64 (x11 + 1)))) else (none)) else (none)) else ((slices_Grow_int_int.f ([] : List Int) x3).bind fun t179 => (slices_Concat_int_int.l1 k t179 x0 (x0.length : Int) 0))
def slices_Concat_int_int.l1 : Nat → List Int → List (List Int) → Int → Int → Option (List Int)
 | 0, _, _, _, _ => none
 | k + 1, x6, x25, x26, x27 => if x27 < x26 then (if 0 ≤ x27 then (if x27 < (x25.length : Int) then (if x6.length + (rd_L12 x25 x27).length < 17592186044416 then (slices_Concat_int_int.l1 k (x6 ++ (rd_L12 x25 x27)) x25 x26 (wrap64 (x27 + 1))) else (none)) else (none)) else (none)) else (some x6)
end
def slices_Concat_int_int.f (k : Nat) (l0 : List (List Int)) : Option (List Int) := slices_Concat_int_int.l0 k l0 0 l0 (l0.length : Int) 0
theorem slices_Concat_int_int.calls (k : Nat) (A0 : Option Addr) (c0 : Nat) (l0 : List (List Int)) (r : List Int) (w : World) (hr0 : Kd.C (Kd.slice 3 (Kd.int .i64)) w A0 l0.length l0) (hc0 : l0.length ≤ c0) (h : slices_Concat_int_int.f k l0 = some r) :
  Calls Try.prog 67 #[.slice A0 l0.length c0] w fun e w' => ∃ v0_ : Value, e = .returned (v0_) ∧ Kd.R (Kd.int .i64) 3 w' w.heap.size (fun _ => True) v0_ r ∧ Below w.heap.size w w' := by
 have HR0 := Aside0.mk hr0
 have HC0 := Aside0.mk hc0
 clear hr0 hc0
 have HB := Aside0.mk (Below.refl w.heap.size w)
 have H : (slices_Concat_int_int.l0 k l0 0 l0 (l0.length : Int) 0) = some r := h
 clear h
 have H' := Aside0.mk H
 clear H
 go_enter Try.func67, Try.ntmps67
 go_wp2
 go_loopg [3, 11] k (fun kq v3 v11 w' => ∃ (x3_1 : Int) (x11_1 : Int), v3 = .int .i64 x3_1 ∧ v11 = .int .i64 x11_1 ∧ Aside0 (slices_Concat_int_int.l0 kq l0 x3_1 l0 (l0.length : Int) x11_1 = some r) ∧ Aside0 (kq ≤ k) ∧ Aside0 (Below w.heap.size w w'))
 case atStart => exact ⟨(0), (0), rG, rG, H', ⟨Nat.le_refl _⟩, ⟨hB⟩⟩
 case round =>
  clear H'
  obtain ⟨x3_1, x11_1, rfl, rfl, HA, HK1, HB⟩ := hrel
  cases gk with
  | zero => exact absurd HA.out (by simp [slices_Concat_int_int.l0])
  | succ k1 =>
   have H := HA.out
   clear HA
   simp only [slices_Concat_int_int.l0] at H
   by_cases c2 : x11_1 < (l0.length : Int)
   ·rw [if_pos c2] at H
    have c2b0 : decide (x11_1 < (l0.length : Int)) = true := decide_eq_true c2
    clear c2
    obtain ⟨c3, H⟩ := if_som H
    have c3b0 : decide (0 ≤ x11_1) = true := decide_eq_true c3
    clear c3
    obtain ⟨c4, H⟩ := if_som H
    have c4b0 : decide (x11_1 < (l0.length : Int)) = true := decide_eq_true c4
    clear c4
    obtain ⟨c5, H⟩ := if_els H
    have c5b0 : decide ((wrap64 (x3_1 + ((rd_L12 l0 x11_1).length : Int))) < 0) = false := decide_eq_false c5
    clear c5
    have H' := Aside0.mk H
    clear H
    have p178 : 0 ≤ (x11_1 : Int) := odt
    have q178 : x11_1 < (l0.length : Int) := odt
    obtain ⟨ad178, A178_0, c178_0, e178, hx178_0, hl178_0, hi178_0⟩ := at_L12 HR0.out x11_1 p178 q178
    cases e178
    replace hx178_0 := pw_cell_below HB.out hx178_0
    have HR178_0 := Aside0.mk hi178_0
    have HC178_0 := Aside0.mk hl178_0
    clear hi178_0 hl178_0
    replace p178 := eq_true p178
    replace q178 := eq_true q178
    go_wp2
    go_roundg k1
    case measure => have := HK1.out; omega
    case rel => exact ⟨(wrap64 (x3_1 + ((rd_L12 l0 x11_1).length : Int))), (wrap64 (x11_1 + 1)), rG, rG, H', ⟨by have := HK1.out; omega⟩, ⟨hB⟩⟩
   ·rw [if_neg c2] at H
    have c2b0 : decide (x11_1 < (l0.length : Int)) = false := decide_eq_false c2
    clear c2
    replace H := Option.bind_eq_some_iff.mp H
    obtain ⟨t179, A60, H⟩ := H
    try dsimp only at H
    have A6 := Aside0.mk A60
    clear A60
    have H' := Aside0.mk H
    clear H
    go_wp2_with (first | ((with_reducible refine gate_callee (f := 84) rfl ?_); refine goesL_ (some 24) rfl rfl Try.func84 (by kernel_rfl) rfl #[.slice none 0 0, .int .i64 x3_1] rfl mA ?_; (refine (slices_Grow_int_int.calls none 0 ([] : List Int) x3_1 t179 _ ?side1 ?side2 A6.out).mono ?_); (case side1 => exact Kd.C_nil _ _); (case side2 => exact Nat.le_refl _); rintro e w7 ⟨v180, rfl, ho0, hb⟩; refine ⟨_, rfl, ?_⟩; have HO181 := Aside0.mk (Kd.R_lower ho0 (below_size hB)); replace HB := Aside0.mk (below_step hB hb); (try clear hb); (try clear hb2); (try clear hk); (try clear hi); (try clear ho0)))
    go_loopg [6, 27] k1 (fun kq v6 v27 w' => ∃ (x6_2 : List Int) (x27_2 : Int), v27 = .int .i64 x27_2 ∧ Aside0 (slices_Concat_int_int.l1 kq x6_2 l0 (l0.length : Int) x27_2 = some r) ∧ Aside0 (kq ≤ k1) ∧ Aside0 (Kd.R (Kd.int .i64) 3 w' w.heap.size (fun _ => True) v6 x6_2) ∧ Aside0 (Below w.heap.size w w'))
    case atStart => exact ⟨(t179), (0), rG, H', ⟨Nat.le_refl _⟩, ⟨by (with_reducible repeat (first|apply rA|apply rN|apply rD)); exact HO181.out⟩, ⟨hB⟩⟩
    case round =>
     clear H'
     try clear c2; try clear c2b0
     obtain ⟨x6_2, x27_2, rfl, HA, HK2, HO_6, HB⟩ := hrel
     cases gk with
     | zero => exact absurd HA.out (by simp [slices_Concat_int_int.l1])
     | succ k2 =>
      have H := HA.out
      clear HA
      simp only [slices_Concat_int_int.l1] at H
      by_cases c8 : x27_2 < (l0.length : Int)
      ·rw [if_pos c8] at H
       have c8b0 : decide (x27_2 < (l0.length : Int)) = true := decide_eq_true c8
       clear c8
       obtain ⟨c9, H⟩ := if_som H
       have c9b0 : decide (0 ≤ x27_2) = true := decide_eq_true c9
       clear c9
       obtain ⟨c10, H⟩ := if_som H
       have c10b0 : decide (x27_2 < (l0.length : Int)) = true := decide_eq_true c10
       clear c10
       obtain ⟨c11, H⟩ := if_som H
       have LMc11 := Aside0.mk c11
       clear c11
       obtain ⟨y183, hy183⟩ : ∃ y_ : List Int, y_ = (x6_2 ++ (rd_L12 l0 x27_2)) := ⟨_, rfl⟩
       replace H : (slices_Concat_int_int.l1 k2 y183 l0 (l0.length : Int) (wrap64 (x27_2 + 1))) = some r := by first | (rw [hy183]; with_reducible exact H) | (have H2_ := (Option.bind_some _ _).symm.trans H; rw [hy183]; with_reducible exact H2_) | (have H2_ := (Option.bind_some _ _).symm.trans H; with_reducible exact H2_) | with_reducible exact H | (rw [hy183]; exact H) | exact H
       have Ny183 := Aside0.mk hy183
       clear hy183
       have H' := Aside0.mk H
       clear H
       have p182 : 0 ≤ (x27_2 : Int) := odt
       have q182 : x27_2 < (l0.length : Int) := odt
       obtain ⟨ad182, A182_0, c182_0, e182, hx182_0, hl182_0, hi182_0⟩ := at_L12 HR0.out x27_2 p182 q182
       cases e182
       replace hx182_0 := pw_cell_below HB.out hx182_0
       have HR182_0 := Aside0.mk hi182_0
       have HC182_0 := Aside0.mk hl182_0
       clear hi182_0 hl182_0
       replace p182 := eq_true p182
       replace q182 := eq_true q182
       go_wp2_with (first | ((with_reducible refine gate_builtin (b := .append) (xs := #[.tmp 31, .tmp 32]) rfl ?_); at_builtin; refine Kd.R_append_rows (Kd.int .i64) (w0 := w) w.heap.size rfl (.tmp 31) (.tmp 32) 47 3 (.int .i64 0) 8 rfl Try.underlying47 info3 rfl (by decide) (by omega) u6 x6_2 (rd_L12 l0 x27_2) _ _ _ (fun _ => True) (fun _ => False) rfl rfl ?aO ?aR (fun _ _ h => h) (fun _ h => h.elim) ?aF ?aB ?aS ?aL ?_; (case aR => repeat (first | exact (Kd.C_below HR182_0.out HB.out) | (with_reducible refine Kd.C_alloc ?_ _) | (with_reducible refine Kd.C_drewN ?_ _) | (with_reducible refine Kd.C_drew ?_))); (case aB => exact hB); (case aF => exact (fun _ _ => trivial)); (case aO => exact (by (with_reducible repeat (first|apply rA|apply rN|apply rD)); exact HO_6.out)); (case aS => exact (below_size hB)); (case aL => have := LMc11.out; omega); intro v184 w12 ho hb hg hat; rw [← Ny183.out] at ho; replace HB := Aside0.mk (hb); have HO185 := Aside0.mk (ho); clear HO_6; clear ho hb hg hat))
       go_roundg k2
       case measure => have := HK1.out; have := HK2.out; omega
       case rel => exact ⟨(y183), (wrap64 (x27_2 + 1)), rG, H', ⟨by have := HK1.out; have := HK2.out; omega⟩, ⟨by (with_reducible repeat (first|apply rA|apply rN|apply rD)); exact HO185.out⟩, ⟨hB⟩⟩
      ·rw [if_neg c8] at H
       have c8b0 : decide (x27_2 < (l0.length : Int)) = false := decide_eq_false c8
       clear c8
       obtain rfl := Option.some.inj H
       go_wp2
       go_ret
       exact ⟨_, rE, by (with_reducible repeat (first|apply rA|apply rN|apply rD)); exact HO_6.out, hB⟩

/-! ### impl_placesIn: function 40 -/
def impl_placesIn.go (G : S34 → List Int → List (List Int) → Option (List (List Int))) (C : List (List Int) → Option (List Int)) (l : List S34) (path : List Int) : Nat → Nat → List (List Int) → Option (List (List Int))
  | 0, _, out => some out
  | n + 1, i, out => (C [path, [(i : Int)]]).bind fun p => (G (rd_T34 l (i : Int)) p out).bind fun q => impl_placesIn.go G C l path n (i + 1) q
def impl_placesIn.f : Nat → S34 → List Int → List (List Int) → Option (List (List Int))
  | 0, _, _, _ => none
  | k + 1, x, path, out => if path.length < 4398046511104 ∧ out.length < 2932031007402 ∧ x.f6.length < 4398046511104 then impl_placesIn.go (impl_placesIn.f k) (slices_Concat_int_int.f k) x.f6 path x.f6.length 0 (out ++ [path]) else none
theorem impl_placesIn.lit_step {P : Program} {ops : Array Oper} {o : Oper} {a : Act} {W : World} {Kc : Act → World → Prop} {Q : Exit → Act → World → Prop} (hw : Region.wanted o (yielded ops a.tmps) = true) {cs : Array Value} {t : TypeId} {n : Nat}
    (hrun : (execOp a.eval o).run P W = .ok (.value (.slice (some ⟨W.heap.size, 0, none⟩) n n)) (W.alloc (.cells cs t (0, 0))))
    (h : ∀ g, g = W.heap.size → ∀ w1, w1.heap[g]? = some (.cells cs t (0, 0)) → Below W.heap.size W w1 → Kc (a.put o.dst (.slice (some ⟨g, 0, none⟩) n n)) w1) : if Region.wanted o (yielded ops a.tmps) = true then Oper.wp P o a W Kc Q else Kc (a.put o.dst undef) W :=
  event_step hw hrun (h _ rfl _ (blk_new W _) (below_alloc (Below.refl _ _) _))
theorem impl_placesIn.C1 {W : World} {g : Nat} {i : Int} (h : W.heap[g]? = some (.cells #[.int .i64 i] 3 (0, 0))) : Kd.C (Kd.int .i64) W (some ⟨g, 0, none⟩) 1 [i] :=
  ⟨rfl, by omega, fun _ => ⟨_, rfl, fun j p hj => by
    cases j with
    | zero =>
      cases hj
      exact ⟨[.int .i64 i], rfl, rfl, fun j u hu => by
        cases j with
        | zero => cases hu; exact blk_cell h 0
        | succ j => cases hu⟩
    | succ j => cases hj⟩⟩
theorem impl_placesIn.C2 {W : World} {g : Nat} {A : Option Addr} {c : Nat} {B : Option Addr} {d : Nat} {p q : List Int} (h : W.heap[g]? = some (.cells #[.slice A p.length c, .slice B q.length d] 47 (0, 0))) (hc : p.length ≤ c) (hp : Kd.C (Kd.int .i64) W A p.length p) (hd : q.length ≤ d) (hq : Kd.C (Kd.int .i64) W B q.length q) : Kd.C (Kd.slice 3 (Kd.int .i64)) W (some ⟨g, 0, none⟩) 2 [p, q] :=
  ⟨rfl, by omega, fun _ => ⟨_, rfl, fun j x hj => by
    match j, hj with
    | 0, hj =>
      cases hj
      exact ⟨[.slice A p.length c], rfl, ⟨A, c, rfl, hc, hp⟩, fun j u hu => by
        cases j with
        | zero => cases hu; exact blk_cell h 0
        | succ j => cases hu⟩
    | 1, hj =>
      cases hj
      exact ⟨[.slice B q.length d], rfl, ⟨B, d, rfl, hd, hq⟩, fun j u hu => by
        cases j with
        | zero => cases hu; exact blk_cell h 1
        | succ j => cases hu⟩
    | j + 2, hj => cases hj⟩⟩
theorem impl_placesIn.concat (k : Nat) (A : Option Addr) (p q r : List Int) (w : World) (hr : Kd.C (Kd.slice 3 (Kd.int .i64)) w A 2 [p, q]) (h : slices_Concat_int_int.f k [p, q] = some r) :
    Calls Try.prog 67 #[.slice A 2 2] w fun e w' => ∃ v0_ : Value, e = .returned (v0_) ∧ Kd.R (Kd.int .i64) 3 w' w.heap.size (fun _ => True) v0_ r ∧ Below w.heap.size w w' :=
  slices_Concat_int_int.calls k A 2 [p, q] r w hr (Nat.le_refl _) h
theorem impl_placesIn.ch8 {W0 W : World} {g : Nat} {u0 u1 u2 u3 u4 u5 u6 u7 : Value} (hb : Below W0.heap.size W0 W) (hg : W0.heap.size ≤ g) :
    Below W0.heap.size W0 ((((((((W.setCell ⟨g, 0, none⟩ u0).setCell ⟨g, 1, none⟩ u1).setCell ⟨g, 2, none⟩ u2).setCell ⟨g, 3, none⟩ u3).setCell ⟨g, 4, none⟩ u4).setCell ⟨g, 5, none⟩ u5).setCell ⟨g, 6, none⟩ u6).setCell ⟨g, 7, none⟩ u7) :=
  below_set (below_set (below_set (below_set (below_set (below_set (below_set (below_set hb hg) hg) hg) hg) hg) hg) hg) hg
theorem impl_placesIn.calls (k : Nat) : ∀ (x : S34) (A4 : Option Addr) (c4 : Nat) (A5 : Option Addr) (c5 : Nat) (A6 : Option Addr) (c6 : Nat) (A1 : Option Addr) (c1 : Nat) (path : List Int) (P : Nat → Prop) (u : Value) (out r : List (List Int)) (w0 w : World) (hB : Below w0.heap.size w0 w) (hr4 : Kd.C k88 w0 A4 x.f4.length x.f4) (hc4 : x.f4.length ≤ c4) (hr5 : Kd.C k90 w0 A5 x.f5.length x.f5) (hc5 : x.f5.length ≤ c5) (hr6 : Kd.C k34 w0 A6 x.f6.length x.f6) (hc6 : x.f6.length ≤ c6) (hr1 : ∀ W_, Kept w W_ P → Kd.C (Kd.int .i64) W_ A1 path.length path) (hc1 : path.length ≤ c1) (ho : Kd.S (Kd.slice 3 (Kd.int .i64)) 47 w w0.heap.size P u out) (h : impl_placesIn.f k x path out = some r),
    Calls Try.prog 40 #[.agg #[.int .i64 x.f0, .string x.f1, .string x.f2, .string x.f3, .slice A4 x.f4.length c4, .slice A5 x.f5.length c5, .slice A6 x.f6.length c6, .string x.f7], .slice A1 path.length c1, u] w fun e w' => ∃ v : Value, e = .returned v ∧ Kd.S (Kd.slice 3 (Kd.int .i64)) 47 w' w0.heap.size (fun k_ => P k_ ∨ w.heap.size ≤ k_) v r ∧ Below w0.heap.size w0 w' ∧ Kept w w' P := by
  induction k with
  | zero => intro x A4 c4 A5 c5 A6 c6 A1 c1 path P u out r w0 w hB hr4 hc4 hr5 hc5 hr6 hc6 hr1 hc1 ho h; exact absurd h (by simp [impl_placesIn.f])
  | succ k ih =>
  intro x A4 c4 A5 c5 A6 c6 A1 c1 path P u out r w0 w hB hr4 hc4 hr5 hc5 hr6 hc6 hr1 hc1 ho h
  simp only [impl_placesIn.f] at h
  obtain ⟨⟨hp1, hp2, hp3⟩, h⟩ := if_som h
  have IH := Aside0.mk ih
  have hu34 := Try.underlying34
  have HR4 := Aside0.mk hr4
  have HC4 := Aside0.mk hc4
  have HR5 := Aside0.mk hr5
  have HC5 := Aside0.mk hc5
  have HR6 := Aside0.mk hr6
  have HC6 := Aside0.mk hc6
  have HR1 := Aside0.mk hr1
  have HC1 := Aside0.mk hc1
  have HS := Aside0.mk ho
  have HB := Aside0.mk hB
  have HB0 := Aside0.mk (show w0.heap.size ≤ w.heap.size from hB.size)
  have HH := Aside0.mk h
  have HK := Aside0.mk (Kept.refl w P)
  have HP1 := Aside0.mk hp1
  have HP2 := Aside0.mk hp2
  have HP3 := Aside0.mk hp3
  clear ih hr4 hc4 hr5 hc5 hr6 hc6 hr1 hc1 ho hB h hp1 hp2 hp3
  go_enter Try.func40, Try.ntmps40
  go_wp2_with (first
    | ((with_reducible refine gate_dst (N := 3) rfl ?_); refine box_event ?hg (N := 3) ?hd (cs := #[.int .i64 x.f0, .string x.f1, .string x.f2, .string x.f3, .slice A4 x.f4.length c4, .slice A5 x.f5.length c5, .slice A6 x.f6.length c6, .string x.f7]) (t := 34) ?hr ?_; (case hd => rfl); (case hg => rfl); (case hr => first | (go_simp; done) | (go_simp; rfl)); intro gN hg w1 hbox hb; have BN := Aside0.mk hbox; have GN := Aside0.mk (show w.heap.size ≤ gN from Nat.le_of_eq hg.symm); replace HS := Aside0.mk (show Kd.S (Kd.slice 3 (Kd.int .i64)) 47 w1 w0.heap.size (fun k_ => (P k_ ∨ w.heap.size ≤ k_) ∧ k_ ≠ gN) u out from Kd.S_mono (Kd.S_below (Kd.S_elderB HS.out gN (Nat.le_of_eq hg.symm)) hb) (fun k_ h_ => ⟨.inl h_.1, h_.2⟩)); replace HK := Aside0.mk (Kept.below HK.out hb); replace HB := Aside0.mk (below_step HB.out hb); clear hb hbox hg)
    | ((with_reducible refine gate_callee (f := 66) rfl ?_); refine goesL_ (some 11) rfl rfl Try.func66 (by kernel_rfl) rfl #[.slice A1 path.length c1] rfl mA ?_; (with_reducible refine (slices_Clone_int_int.calls A1 c1 path path _ (HR1.out _ HK.out) HC1.out (by unfold slices_Clone_int_int.f; rw [if_pos HP1.out])).mono ?_); rintro e w2 ⟨v2, rfl, hv, hb⟩; refine ⟨_, rfl, ?_⟩; obtain ⟨N1, hN1, hN2, hN3, hN4⟩ : ∃ N : Nat, gN < N ∧ N ≤ w2.heap.size ∧ Kd.R (Kd.int .i64) 3 w2 N (fun _ => True) v2 path ∧ Kd.S (Kd.slice 3 (Kd.int .i64)) 47 w2 w0.heap.size (fun k_ => ((P k_ ∨ w.heap.size ≤ k_) ∧ k_ ≠ gN) ∧ k_ < N) u out := ⟨_, blk_lt BN.out, hb.size, hv, Kd.S_old HS.out hb⟩; have HN := Aside0.mk (And.intro hN1 (And.intro hN2 hN3)); replace HS := Aside0.mk hN4; replace BN := Aside0.mk (blk_below BN.out hb); replace HK := Aside0.mk (Kept.below HK.out hb); replace HB := Aside0.mk (below_step HB.out hb); clear hv hb hN1 hN2 hN3 hN4; obtain ⟨A2, c2, e2⟩ := Kd.R_slice HN.out.2.2; subst e2)
    | ((with_reducible refine gate_builtin (b := .append) (xs := #[.tmp 9, .tmp 12]) rfl ?_); at_builtin; refine Kd.S_append (Kd.slice 3 (Kd.int .i64)) (w0 := w0) w0.heap.size rfl (.tmp 9) (.tmp 12) 28 47 (.slice none 0 0) 24 rfl Try.underlying28 info47 rfl (by decide) (by omega) u out path [.slice A2 path.length c2] (fun k_ => (P k_ ∨ w.heap.size ≤ k_) ∧ k_ ≠ gN) (fun k_ => N1 ≤ k_) rfl rfl ?aP ?aK ?aF ?aO ?aB ?aS ?aL ?_; (case aP => exact ⟨_, rfl, Kd.R_lower (Kd.R_mono (Kd.R_bound HN.out.2.2) (fun _ h_ => h_.2.1)) (Nat.le_trans HB0.out (Nat.le_trans GN.out (Nat.le_of_lt HN.out.1)))⟩); (case aK => exact fun k_ h_ => ⟨⟨.inr (Nat.le_trans GN.out (Nat.le_of_lt (Nat.lt_of_lt_of_le HN.out.1 h_))), fun e_ => Nat.lt_irrefl _ (Nat.lt_of_lt_of_le HN.out.1 (e_ ▸ h_))⟩, fun e_ => Nat.not_lt.2 h_ ((Kd.S_R HS.out).1 k_ e_.symm).2⟩); (case aF => exact fun k_ h_ => ⟨.inr (Nat.le_trans GN.out (Nat.le_trans (Nat.le_of_lt HN.out.1) (Nat.le_trans HN.out.2.1 h_))), fun e_ => Nat.lt_irrefl _ (Nat.lt_of_lt_of_le HN.out.1 (Nat.le_trans HN.out.2.1 (e_ ▸ h_)))⟩); (case aO => exact Kd.S_mono HS.out (fun _ h_ => ⟨h_.1, Nat.not_le.2 h_.2⟩)); (case aB => exact HB.out); (case aS => exact HB.out.size); (case aL => have := HP2.out; omega); intro v3 w3 ho hb hg hat; replace BN := Aside0.mk (blk_grown (g := gN) BN.out hg (Kd.S_away HS.out (fun _ h_ => h_.1.2))); replace HK := Aside0.mk (Kept.of_grown hg HK.out (fun k_ e_ => ((Kd.S_R HS.out).1 k_ e_).1.1)); replace HB := Aside0.mk hb; replace HS := Aside0.mk ho; clear ho hb hg hat; clear HN; obtain ⟨zn0, zn1, zn2, zn3, zn4, zn5, zn6, zn7⟩ := bc8 BN.out))
  clear zn0 zn1 zn2 zn3 zn4 zn5 zn6 zn7
  go_loopg [2, 17] x.f6.length (fun gg s2 s17 wr => ∃ (i n : Nat) (q : List (List Int)), i + n = x.f6.length ∧ n ≤ gg ∧ s17 = .int .i64 (i : Int) ∧ Aside0 (impl_placesIn.go (impl_placesIn.f k) (slices_Concat_int_int.f k) x.f6 path n i q = some r) ∧ Aside0 (Kd.S (Kd.slice 3 (Kd.int .i64)) 47 wr w0.heap.size (fun k_ => (P k_ ∨ w.heap.size ≤ k_) ∧ k_ ≠ gN) s2 q) ∧ Aside0 (wr.heap[gN]? = some (.cells #[.int .i64 x.f0, .string x.f1, .string x.f2, .string x.f3, .slice A4 x.f4.length c4, .slice A5 x.f5.length c5, .slice A6 x.f6.length c6, .string x.f7] 34 (0, 0))) ∧ Aside0 (Below w0.heap.size w0 wr) ∧ Aside0 (Kept w wr P))
  case atStart => exact ⟨0, x.f6.length, out ++ [path], by simp, Nat.le_refl _, rfl, HH, ⟨HS.out⟩, ⟨BN.out⟩, ⟨HB.out⟩, ⟨HK.out⟩⟩
  case round =>
    clear HH HS HB HK BN
    obtain ⟨i, n, q, hin, hgg, rfl, HH, HS, BN, HB, HK⟩ := hrel
    cases n with
    | zero =>
      obtain rfl : q = r := by have := HH.out; simpa only [impl_placesIn.go, Option.some.injEq] using this
      have hlt : decide ((i : Int) < (x.f6.length : Int)) = false := decide_eq_false (by omega)
      go_wp2
      go_ret
      exact ⟨_, rfl, Kd.S_mono HS.out (fun _ h_ => h_.1), HB.out, HK.out⟩
    | succ n =>
      have HH' := HH.out
      simp only [impl_placesIn.go] at HH'
      obtain ⟨pth, hC, HH'⟩ := Option.bind_eq_some_iff.1 HH'
      obtain ⟨q2, hG, HH'⟩ := Option.bind_eq_some_iff.1 HH'
      have TC := Aside0.mk hC
      have TG := Aside0.mk hG
      have TH := Aside0.mk HH'
      clear HH HH' hC hG
      have hlt : decide ((i : Int) < (x.f6.length : Int)) = true := decide_eq_true (by omega)
      have p0 : 0 ≤ (i : Int) := by omega
      have q0 : (i : Int) < (x.f6.length : Int) := by omega
      have HLEN := Aside0.mk (And.intro hin hgg)
      clear hin hgg
      obtain ⟨ad, B4, d4, B5, d5, B6, d6, e_, hx0, hx1, hx2, hx3, hx4, hx5, hx6, hx7, hl4, hi4, hl5, hi5, hl6, hi6⟩ := at_T34 HR6.out (i : Int) p0 q0
      cases e_
      have hn_ : ((i : Int)).toNat = i := rfl
      rw [hn_] at hx0 hx1 hx2 hx3 hx4 hx5 hx6 hx7
      clear hn_
      replace hx0 := pw_cell_below HB.out hx0
      replace hx1 := pw_cell_below HB.out hx1
      replace hx2 := pw_cell_below HB.out hx2
      replace hx3 := pw_cell_below HB.out hx3
      replace hx4 := pw_cell_below HB.out hx4
      replace hx5 := pw_cell_below HB.out hx5
      replace hx6 := pw_cell_below HB.out hx6
      replace hx7 := pw_cell_below HB.out hx7
      have HI := Aside0.mk (And.intro hi4 (And.intro hi5 hi6))
      have HL := Aside0.mk (And.intro hl4 (And.intro hl5 hl6))
      clear hi4 hi5 hi6 hl4 hl5 hl6
      replace p0 := eq_true p0
      replace q0 := eq_true q0
      go_wp2_with (((with_reducible refine gate_dst (N := 8) rfl ?_); refine box_event ?hg (N := 8) ?hd (cs := #[.int .i64 0, .string (⟨#[]⟩ : ByteArray), .string (⟨#[]⟩ : ByteArray), .string (⟨#[]⟩ : ByteArray), .slice none 0 0, .slice none 0 0, .slice none 0 0, .string (⟨#[]⟩ : ByteArray)]) (t := 34) ?hr ?_; (case hd => rfl); (case hg => rfl); (case hr => first | (go_simp; done) | (go_simp; rfl)); intro gK hg w4 hbox hb; have HC := impl_placesIn.ch8 (u0 := .int .i64 ((rd_T34 x.f6 (i : Int)).f0)) (u1 := .string ((rd_T34 x.f6 (i : Int)).f1)) (u2 := .string ((rd_T34 x.f6 (i : Int)).f2)) (u3 := .string ((rd_T34 x.f6 (i : Int)).f3)) (u4 := .slice B4 ((rd_T34 x.f6 (i : Int)).f4).length d4) (u5 := .slice B5 ((rd_T34 x.f6 (i : Int)).f5).length d5) (u6 := .slice B6 ((rd_T34 x.f6 (i : Int)).f6).length d6) (u7 := .string ((rd_T34 x.f6 (i : Int)).f7)) hb (Nat.le_of_eq hg.symm); have hM := Kd.S_old HS.out HC; rw [← hg] at hM; have HS5 := Aside0.mk hM; have BN5 := Aside0.mk (blk_below BN.out HC); have HB5 := Aside0.mk (below_step HB.out HC); have HK5 := Aside0.mk (Kept.below HK.out HC); have HBX := Aside0.mk hbox; have HNK := Aside0.mk (show gN < gK by rw [hg]; exact blk_lt BN.out); obtain ⟨zk0, zk1, zk2, zk3, zk4, zk5, zk6, zk7⟩ := bc8 hbox; obtain ⟨yk0, yk1, yk2, yk3, yk4, yk5, yk6, yk7⟩ := bf8 hbox; replace hx0 := pw_cell_below hb hx0; replace hx1 := pw_cell_below hb hx1; replace hx2 := pw_cell_below hb hx2; replace hx3 := pw_cell_below hb hx3; replace hx4 := pw_cell_below hb hx4; replace hx5 := pw_cell_below hb hx5; replace hx6 := pw_cell_below hb hx6; replace hx7 := pw_cell_below hb hx7; clear hb hg hM HC))
      clear zk0 zk1 zk2 zk3 zk4 zk5 zk6 zk7 yk0 yk1 yk2 yk3 yk4 yk5 yk6 yk7 hx0 hx1 hx2 hx3 hx4 hx5 hx6 hx7
      have BK := Aside0.mk (blk_drew (put8 (b0 := .int .i64 ((rd_T34 x.f6 (i : Int)).f0)) (b1 := .string ((rd_T34 x.f6 (i : Int)).f1)) (b2 := .string ((rd_T34 x.f6 (i : Int)).f2)) (b3 := .string ((rd_T34 x.f6 (i : Int)).f3)) (b4 := .slice B4 ((rd_T34 x.f6 (i : Int)).f4).length d4) (b5 := .slice B5 ((rd_T34 x.f6 (i : Int)).f5).length d5) (b6 := .slice B6 ((rd_T34 x.f6 (i : Int)).f6).length d6) (b7 := .string ((rd_T34 x.f6 (i : Int)).f7)) HBX.out))
      replace HS5 := Aside0.mk (Kd.S_drew HS5.out)
      replace BN5 := Aside0.mk (blk_drew BN5.out)
      replace HB5 := Aside0.mk (below_drew1 HB5.out)
      replace HK5 := Aside0.mk (Kept.drew HK5.out)
      clear HS BN HB HK HBX
      refine start_ (n := 9) (S := fun w' => w'.cell? ⟨gK, 0, none⟩ = some (.int .i64 ((rd_T34 x.f6 (i : Int)).f0)) ∧ w'.cell? ⟨gK, 1, none⟩ = some (.string ((rd_T34 x.f6 (i : Int)).f1)) ∧ w'.cell? ⟨gK, 2, none⟩ = some (.string ((rd_T34 x.f6 (i : Int)).f2)) ∧ w'.cell? ⟨gK, 3, none⟩ = some (.string ((rd_T34 x.f6 (i : Int)).f3)) ∧ w'.cell? ⟨gK, 4, none⟩ = some (.slice B4 ((rd_T34 x.f6 (i : Int)).f4).length d4) ∧ w'.cell? ⟨gK, 5, none⟩ = some (.slice B5 ((rd_T34 x.f6 (i : Int)).f5).length d5) ∧ w'.cell? ⟨gK, 6, none⟩ = some (.slice B6 ((rd_T34 x.f6 (i : Int)).f6).length d6) ∧ w'.cell? ⟨gK, 7, none⟩ = some (.string ((rd_T34 x.f6 (i : Int)).f7))) (ds := []) #[false, false, false, false, false, false, false, false, false] (by kernel_rfl) rfl rfl ⟨(blk_cell BK.out 0).trans rfl, (blk_cell BK.out 1).trans rfl, (blk_cell BK.out 2).trans rfl, (blk_cell BK.out 3).trans rfl, (blk_cell BK.out 4).trans rfl, (blk_cell BK.out 5).trans rfl, (blk_cell BK.out 6).trans rfl, (blk_cell BK.out 7).trans rfl⟩ (fun hHeld => ?_)
      generalize World.drew _ = w5 at HS5 BN5 BK HB5 HK5 hHeld ⊢
      refine pure_ (i := 1) (N := some 23) (v := ?_) (a' := ?_) #[false, true, false, false, false, false, false, false, false] rfl rfl (by kernel_rfl) (fun _ _ _ h => h) (Or.inl ⟨by rfl, ?_⟩) ?_ ?_
      rotate_left
      · intro w'
        go_simp
        with_reducible rfl
      rotate_left
      · simp only [Act.put, sT, sZ, sS, i64_w, i32_w]
        rfl
      refine pure_ (i := 2) (N := some 24) (v := ?_) (a' := ?_) #[false, true, true, false, false, false, false, false, false] rfl rfl (by kernel_rfl) (fun _ _ _ h => h) (Or.inl ⟨by rfl, ?_⟩) ?_ ?_
      rotate_left
      · intro w'
        go_simp
        with_reducible rfl
      rotate_left
      · simp only [Act.put, sT, sZ, sS, i64_w, i32_w]
        rfl
      refine pure_ (i := 6) (N := some 28) (v := ?_) (a' := ?_) #[false, true, true, false, false, false, true, false, false] rfl rfl (by kernel_rfl) (fun _ _ _ h => h) (Or.inl ⟨by rfl, ?_⟩) ?_ ?_
      rotate_left
      · intro w'
        go_simp
        with_reducible rfl
      rotate_left
      · simp only [Act.put, sT, sZ, sS, i64_w, i32_w]
        rfl
      refine take_ (i := 0) (N := some 22) (v := ?_) (a' := ?_) #[true, true, true, false, false, false, true, false, false] rfl rfl (by kernel_rfl) (fun _ _ _ h => h) (Or.inl ⟨by rfl, ?_⟩) hHeld ?_ ?_
      rotate_left
      · rintro w' ⟨s0, s1, s2, s3, s4, s5, s6, s7⟩
        go_simp
        with_reducible rfl
      rotate_left
      · simp only [Act.put, sT, sZ, sS, i64_w, i32_w]
        rfl
      refine one_ (i := 3) (N := some 25) #[true, true, true, true, false, false, true, false, false] rfl rfl (by kernel_rfl) (by decide) (fun K hK => ?_)
      refine impl_placesIn.lit_step (by rfl) (cs := #[.int .i64 (i : Int)]) (t := 3) (n := 1) ?_ ?_
      · first | (go_simp; done) | (go_simp; rfl)
      intro gA hgA w6 hA hb
      have BA := Aside0.mk hA
      replace HS5 := Aside0.mk (Kd.S_below HS5.out hb)
      replace BN5 := Aside0.mk (blk_below BN5.out hb)
      replace BK := Aside0.mk (blk_below BK.out hb)
      replace HB5 := Aside0.mk (below_step HB5.out hb)
      replace HK5 := Aside0.mk (Kept.below HK5.out hb)
      clear hA hb hgA
      refine hK.out _ _ ⟨(blk_cell BK.out 0).trans rfl, (blk_cell BK.out 1).trans rfl, (blk_cell BK.out 2).trans rfl, (blk_cell BK.out 3).trans rfl, (blk_cell BK.out 4).trans rfl, (blk_cell BK.out 5).trans rfl, (blk_cell BK.out 6).trans rfl, (blk_cell BK.out 7).trans rfl⟩ (fun hHeld => ?_)
      clear hK K
      refine norm_ (a' := ?_) ?_ ?_
      rotate_left
      · show Act.put _ (some 25) _ = _
        simp only [Act.put, sT, sZ, sS, i64_w, i32_w]
        rfl
      refine one_ (i := 4) (N := some 26) #[true, true, true, true, true, false, true, false, false] rfl rfl (by kernel_rfl) (by decide) (fun K hK => ?_)
      refine impl_placesIn.lit_step (by rfl) (cs := #[.slice A1 path.length c1, .slice (some ⟨gA, 0, none⟩) 1 1]) (t := 47) (n := 2) ?_ ?_
      · first | (go_simp; done) | (go_simp; rfl)
      intro gB hgB w7 hA hb
      have BB := Aside0.mk hA
      replace BA := Aside0.mk (blk_below BA.out hb)
      replace HS5 := Aside0.mk (Kd.S_below HS5.out hb)
      replace BN5 := Aside0.mk (blk_below BN5.out hb)
      replace BK := Aside0.mk (blk_below BK.out hb)
      replace HB5 := Aside0.mk (below_step HB5.out hb)
      replace HK5 := Aside0.mk (Kept.below HK5.out hb)
      clear hA hb hgB
      refine hK.out _ _ ⟨(blk_cell BK.out 0).trans rfl, (blk_cell BK.out 1).trans rfl, (blk_cell BK.out 2).trans rfl, (blk_cell BK.out 3).trans rfl, (blk_cell BK.out 4).trans rfl, (blk_cell BK.out 5).trans rfl, (blk_cell BK.out 6).trans rfl, (blk_cell BK.out 7).trans rfl⟩ (fun hHeld => ?_)
      clear hK K
      refine norm_ (a' := ?_) ?_ ?_
      rotate_left
      · show Act.put _ (some 26) _ = _
        simp only [Act.put, sT, sZ, sS, i64_w, i32_w]
        rfl
      refine one_ (i := 5) (N := some 27) #[true, true, true, true, true, true, true, false, false] rfl rfl (by kernel_rfl) (by decide) (fun K hK => ?_)
      refine goes_ Try.func67 (by kernel_rfl) rfl #[.slice (some ⟨gB, 0, none⟩) 2 2] (by rfl) rfl rfl mA ?_
      with_reducible refine (impl_placesIn.concat k (some ⟨gB, 0, none⟩) path [(i : Int)] pth _ (impl_placesIn.C2 (q := [(i : Int)]) BB.out HC1.out (HR1.out _ HK5.out) (Nat.le_refl _) (impl_placesIn.C1 BA.out)) TC.out).mono ?_
      rintro e w8 ⟨v8, rfl, hv, hb⟩
      refine ⟨_, rfl, ?_⟩
      obtain ⟨M, hMg, hMs, hMv, hMS⟩ : ∃ M : Nat, gK < M ∧ M ≤ w8.heap.size ∧ Kd.R (Kd.int .i64) 3 w8 w0.heap.size (fun k_ => M ≤ k_) v8 pth ∧ Kd.S (Kd.slice 3 (Kd.int .i64)) 47 w8 w0.heap.size (fun k_ => (((P k_ ∨ w.heap.size ≤ k_) ∧ k_ ≠ gN) ∧ k_ < gK) ∧ k_ < M) _ q := ⟨_, blk_lt BK.out, hb.size, Kd.R_lower (Kd.R_mono (Kd.R_bound hv) (fun _ h_ => h_.2.1)) HB5.out.size, Kd.S_old HS5.out hb⟩
      replace BN5 := Aside0.mk (blk_below BN5.out hb)
      replace BK := Aside0.mk (blk_below BK.out hb)
      replace HB5 := Aside0.mk (below_step HB5.out hb)
      replace HK5 := Aside0.mk (Kept.below HK5.out hb)
      replace HS5 := Aside0.mk hMS
      obtain ⟨A8, c8, e8⟩ := Kd.R_slice hMv
      subst e8
      have HV := Aside0.mk (And.intro hMg (And.intro hMs hMv))
      clear hv hb hMg hMs hMv hMS
      refine hK.out _ _ ⟨(blk_cell BK.out 0).trans rfl, (blk_cell BK.out 1).trans rfl, (blk_cell BK.out 2).trans rfl, (blk_cell BK.out 3).trans rfl, (blk_cell BK.out 4).trans rfl, (blk_cell BK.out 5).trans rfl, (blk_cell BK.out 6).trans rfl, (blk_cell BK.out 7).trans rfl⟩ (fun hHeld => ?_)
      clear hK K
      refine norm_ (a' := ?_) ?_ ?_
      rotate_left
      · show Act.put _ (some 27) _ = _
        simp only [Act.put, sT, sZ, sS, i64_w, i32_w]
        rfl
      refine one_ (i := 7) (N := some 29) #[true, true, true, true, true, true, true, true, false] rfl rfl (by kernel_rfl) (by decide) (fun K hK => ?_)
      refine goes_ Try.func40 (by kernel_rfl) rfl #[.agg #[.int .i64 ((rd_T34 x.f6 (i : Int)).f0), .string ((rd_T34 x.f6 (i : Int)).f1), .string ((rd_T34 x.f6 (i : Int)).f2), .string ((rd_T34 x.f6 (i : Int)).f3), .slice B4 ((rd_T34 x.f6 (i : Int)).f4).length d4, .slice B5 ((rd_T34 x.f6 (i : Int)).f5).length d5, .slice B6 ((rd_T34 x.f6 (i : Int)).f6).length d6, .string ((rd_T34 x.f6 (i : Int)).f7)], .slice A8 pth.length c8, u2] (by rfl) rfl rfl mA ?_
      with_reducible refine (IH.out (rd_T34 x.f6 (i : Int)) B4 d4 B5 d5 B6 d6 A8 c8 pth (fun k_ => (((P k_ ∨ w.heap.size ≤ k_) ∧ k_ ≠ gN) ∧ k_ < gK) ∧ k_ < M) _ q q2 w0 _ HB5.out HI.out.1 HL.out.1 HI.out.2.1 HL.out.2.1 HI.out.2.2 HL.out.2.2 (Kd.C_kept_own HV.out.2.2 (fun k_ h_ h2_ => absurd h2_.2 (Nat.not_lt.2 h_))) (Kd.R_reads' HV.out.2.2).2.1 HS5.out TG.out).mono ?_
      rintro e w9 ⟨v9, rfl, hS, hb, hkp⟩
      refine ⟨_, rfl, ?_⟩
      replace BN5 := Aside0.mk (blk_kept BN5.out hkp (fun h_ => h_.1.1.2 rfl))
      replace BK := Aside0.mk (blk_kept BK.out hkp (fun h_ => Nat.lt_irrefl _ h_.1.2))
      replace HK5 := Aside0.mk (Kept.then_ HK5.out hkp (fun k_ h_ => h_.1.1.1))
      replace HS5 := Aside0.mk (show Kd.S (Kd.slice 3 (Kd.int .i64)) 47 w9 w0.heap.size (fun k_ => (P k_ ∨ w.heap.size ≤ k_) ∧ k_ ≠ gN) v9 q2 from Kd.S_mono hS (fun k_ h_ => h_.elim (fun h_ => h_.1.1) (fun h_ => ⟨.inr (Nat.le_trans GN.out (Nat.le_of_lt (Nat.lt_of_lt_of_le HNK.out (Nat.le_trans (Nat.le_of_lt HV.out.1) (Nat.le_trans HV.out.2.1 h_))))), fun e_ => Nat.lt_irrefl _ (Nat.lt_of_lt_of_le HNK.out (Nat.le_trans (Nat.le_of_lt HV.out.1) (Nat.le_trans HV.out.2.1 (e_ ▸ h_))))⟩)))
      replace HB5 := Aside0.mk hb
      clear hS hb hkp
      refine hK.out _ _ ⟨(blk_cell BK.out 0).trans rfl, (blk_cell BK.out 1).trans rfl, (blk_cell BK.out 2).trans rfl, (blk_cell BK.out 3).trans rfl, (blk_cell BK.out 4).trans rfl, (blk_cell BK.out 5).trans rfl, (blk_cell BK.out 6).trans rfl, (blk_cell BK.out 7).trans rfl⟩ (fun hHeld => ?_)
      clear hK K
      refine norm_ (a' := ?_) ?_ ?_
      rotate_left
      · show Act.put _ (some 29) _ = _
        simp only [Act.put, sT, sZ, sS, i64_w, i32_w]
        rfl
      refine pure_ (i := 8) (N := some 2) (v := ?_) (a' := ?_) #[true, true, true, true, true, true, true, true, true] rfl rfl (by kernel_rfl) (fun _ _ _ h => h) (Or.inl ⟨by rfl, ?_⟩) ?_ ?_
      rotate_left
      · intro w'
        go_simp
        with_reducible rfl
      rotate_left
      · simp only [Act.put, sT, sZ, sS, i64_w, i32_w]
        rfl
      refine done_ (by kernel_rfl) ?_
      clear hHeld
      go_wp2
      go_roundg n
      case measure => have := HLEN.out; omega
      case rel => exact ⟨i + 1, n, q2, by have := HLEN.out; omega, Nat.le_refl _, by have h8_ := HP3.out; have h9_ := HLEN.out; rw [Go.IntWalk.wrap64_in _ (by omega)]; rfl, TH, ⟨HS5.out⟩, ⟨BN5.out⟩, ⟨HB5.out⟩, ⟨HK5.out⟩⟩

/-! ### impl_Places: function 11 -/
def impl_Places.f (k : Nat) (x0 : Int) (x1 x2 x3 : ByteArray) (x4 : List S88) (x5 : List S90) (x6 : List S34) (x7 : ByteArray) : Option (List (List Int)) := impl_placesIn.f k ⟨x0, x1, x2, x3, x4, x5, x6, x7⟩ [] []
theorem impl_Places.inner (k : Nat) (x0 : Int) (x1 x2 x3 : ByteArray) (A4 : Option Addr) (c4 : Nat) (x4 : List S88) (A5 : Option Addr) (c5 : Nat) (x5 : List S90) (A6 : Option Addr) (c6 : Nat) (x6 : List S34) (x7 : ByteArray) (r : List (List Int)) (w0 w : World) (hB : Below w0.heap.size w0 w) (hr4 : Kd.C k88 w0 A4 x4.length x4) (hc4 : x4.length ≤ c4) (hr5 : Kd.C k90 w0 A5 x5.length x5) (hc5 : x5.length ≤ c5) (hr6 : Kd.C k34 w0 A6 x6.length x6) (hc6 : x6.length ≤ c6) (h : impl_Places.f k x0 x1 x2 x3 x4 x5 x6 x7 = some r) :
    Calls Try.prog 40 #[.agg #[.int .i64 x0, .string x1, .string x2, .string x3, .slice A4 x4.length c4, .slice A5 x5.length c5, .slice A6 x6.length c6, .string x7], .slice none 0 0, .slice none 0 0] w fun e w' => ∃ v : Value, e = .returned v ∧ Kd.S (Kd.slice 3 (Kd.int .i64)) 47 w' w0.heap.size (fun k_ => False ∨ w.heap.size ≤ k_) v r ∧ Below w0.heap.size w0 w' ∧ Kept w w' (fun _ => False) :=
  impl_placesIn.calls k ⟨x0, x1, x2, x3, x4, x5, x6, x7⟩ A4 c4 A5 c5 A6 c6 none 0 [] (fun _ => False) (.slice none 0 0) [] r w0 w hB hr4 hc4 hr5 hc5 hr6 hc6 Kd.C_kept_nil (Nat.le_refl _) (Kd.S_nil _ _ _ _ _) h
theorem impl_Places.calls (k : Nat) (x0 : Int) (x1 x2 x3 : ByteArray) (A4 : Option Addr) (c4 : Nat) (x4 : List S88) (A5 : Option Addr) (c5 : Nat) (x5 : List S90) (A6 : Option Addr) (c6 : Nat) (x6 : List S34) (x7 : ByteArray) (r : List (List Int)) (w : World) (hr4 : Kd.C k88 w A4 x4.length x4) (hc4 : x4.length ≤ c4) (hr5 : Kd.C k90 w A5 x5.length x5) (hc5 : x5.length ≤ c5) (hr6 : Kd.C k34 w A6 x6.length x6) (hc6 : x6.length ≤ c6) (h : impl_Places.f k x0 x1 x2 x3 x4 x5 x6 x7 = some r) :
    Calls Try.prog 11 #[.agg #[.int .i64 x0, .string x1, .string x2, .string x3, .slice A4 x4.length c4, .slice A5 x5.length c5, .slice A6 x6.length c6, .string x7]] w fun e w' => ∃ v : Value, e = .returned v ∧ Kd.S (Kd.slice 3 (Kd.int .i64)) 47 w' w.heap.size (fun k_ => w.heap.size ≤ k_) v r ∧ Below w.heap.size w w' := by
  have hu34 := Try.underlying34
  have HR4 := Aside0.mk hr4
  have HC4 := Aside0.mk hc4
  have HR5 := Aside0.mk hr5
  have HC5 := Aside0.mk hc5
  have HR6 := Aside0.mk hr6
  have HC6 := Aside0.mk hc6
  have HH := Aside0.mk h
  clear hr4 hc4 hr5 hc5 hr6 hc6 h
  go_enter Try.func11, Try.ntmps11
  go_wp2_with (first
    | ((with_reducible refine gate_dst (N := 1) rfl ?_); refine box_event ?hg (N := 1) ?hd (cs := #[.int .i64 x0, .string x1, .string x2, .string x3, .slice A4 x4.length c4, .slice A5 x5.length c5, .slice A6 x6.length c6, .string x7]) (t := 34) ?hr ?_; (case hd => rfl); (case hg => rfl); (case hr => first | (go_simp; done) | (go_simp; rfl)); intro gN hg w1 hbox hb; have HB := Aside0.mk hb; have BN := Aside0.mk hbox; obtain ⟨zn0, zn1, zn2, zn3, zn4, zn5, zn6, zn7⟩ := bc8 hbox; clear hb hbox hg)
    | ((with_reducible refine gate_callee (f := 40) rfl ?_); refine goesL_ (some 4) rfl rfl Try.func40 (by kernel_rfl) rfl #[.agg #[.int .i64 x0, .string x1, .string x2, .string x3, .slice A4 x4.length c4, .slice A5 x5.length c5, .slice A6 x6.length c6, .string x7], .slice none 0 0, .slice none 0 0] rfl mA ?_; (with_reducible refine (impl_Places.inner k x0 x1 x2 x3 A4 c4 x4 A5 c5 x5 A6 c6 x6 x7 r w _ HB.out HR4.out HC4.out HR5.out HC5.out HR6.out HC6.out HH.out).mono ?_); rintro e w2 ⟨v2, rfl, hv, hb, -⟩; refine ⟨_, rfl, ?_⟩; have HV := Aside0.mk (Kd.S_mono hv (fun k_ h_ => h_.elim False.elim (fun h_ => Nat.le_trans HB.out.size h_))); have HB2 := Aside0.mk hb; clear hv hb zn0 zn1 zn2 zn3 zn4 zn5 zn6 zn7))
  go_ret
  exact ⟨_, rfl, HV.out, HB2.out⟩

/-! ### laws_eqIntS: function 27 -/
def laws_eqIntS.l0 : Nat → List Int → List Int → Int → Option (Bool)
 | 0, _, _, _ => none
 | k + 1, x0, x1, x5 => if x5 < (x0.length : Int) then (if 0 ≤ x5 then (if x5 < (x1.length : Int) then (if (rd x0 x5) = (rd x1 x5) then (laws_eqIntS.l0 k x0 x1 (wrap64 (x5 + 1))) else (some false)) else (none)) else (none)) else (some true)
def laws_eqIntS.f (k : Nat) (l0 : List Int) (l1 : List Int) : Option (Bool) := if (l0.length : Int) = (l1.length : Int) then (laws_eqIntS.l0 k l0 l1 0) else (some false)
theorem laws_eqIntS.calls (k : Nat) (A0 : Option Addr) (c0 : Nat) (l0 : List Int) (A1 : Option Addr) (c1 : Nat) (l1 : List Int) (r_ : Bool) (w : World) (hr0 : Kd.C (Kd.int .i64) w A0 l0.length l0) (hc0 : l0.length ≤ c0) (hr1 : Kd.C (Kd.int .i64) w A1 l1.length l1) (hc1 : l1.length ≤ c1) (h : laws_eqIntS.f k l0 l1 = some true) :
  Calls Try.prog 27 #[.slice A0 l0.length c0, .slice A1 l1.length c1] w fun e w' => e = .returned (.bool true) ∧ Drawn0 w w' := by
 have HR0 := Aside0.mk hr0
 have HC0 := Aside0.mk hc0
 clear hr0 hc0
 have HR1 := Aside0.mk hr1
 have HC1 := Aside0.mk hc1
 clear hr1 hc1
 have H : (if (l0.length : Int) = (l1.length : Int) then (laws_eqIntS.l0 k l0 l1 0) else (some false)) = some true := h
 clear h
 by_cases c3 : (l0.length : Int) = (l1.length : Int)
 ·rw [if_pos c3] at H
  have c3b0 : ((l0.length : Int) == (l1.length : Int)) = true := beq_iff_eq.mpr c3
  have c3b1 : ((l0.length : Int) != (l1.length : Int)) = false := bne_eq_false_iff_eq.mpr c3
  have c3b2 : (l0.length == l1.length) = true := by first | simpa using c3 | (simp at c3 ⊢; omega)
  clear c3
  have H' := Aside0.mk H
  clear H
  go_enter Try.func27, Try.ntmps27
  go_wp2
  repeat (go_quiet (fail); try go_wp2)
  go_loopg [5] k (fun kq v5 w' => ∃ (x5_1 : Int), v5 = .int .i64 x5_1 ∧ Aside0 (laws_eqIntS.l0 kq l0 l1 x5_1 = some true) ∧ Aside0 (kq ≤ k) ∧ Drawn0 w w')
  case atStart => exact ⟨(0), rG, H', ⟨Nat.le_refl _⟩, by repeat (first | exact Drawn0.refl _ | apply Drawn0.step)⟩
  case round =>
   clear H'
   try clear c3; try clear c3b2; try clear c3b1; try clear c3b0
   obtain ⟨x5_1, rfl, HA, HK1, ⟨m1, rfl⟩⟩ := hrel
   cases gk with
   | zero => exact absurd HA.out (by simp [laws_eqIntS.l0])
   | succ k1 =>
    have H := HA.out
    clear HA
    simp only [laws_eqIntS.l0] at H
    by_cases c4 : x5_1 < (l0.length : Int)
    ·rw [if_pos c4] at H
     have c4b0 : decide (x5_1 < (l0.length : Int)) = true := decide_eq_true c4
     clear c4
     by_cases c5 : 0 ≤ x5_1
     ·rw [if_pos c5] at H
      have c5b0 : decide (0 ≤ x5_1) = true := decide_eq_true c5
      clear c5
      by_cases c6 : x5_1 < (l1.length : Int)
      ·rw [if_pos c6] at H
       have c6b0 : decide (x5_1 < (l1.length : Int)) = true := decide_eq_true c6
       clear c6
       by_cases c7 : (rd l0 x5_1) = (rd l1 x5_1)
       ·rw [if_pos c7] at H
        have c7b0 : ((rd l0 x5_1) == (rd l1 x5_1)) = true := beq_iff_eq.mpr c7
        have c7b1 : ((rd l0 x5_1) != (rd l1 x5_1)) = false := bne_eq_false_iff_eq.mpr c7
        clear c7
        have H' := Aside0.mk H
        clear H
        have p186 : 0 ≤ (x5_1 : Int) := odt
        have q186 : x5_1 < (l0.length : Int) := odt
        obtain ⟨ad186, e186, hx186_0⟩ := Kd.at_int HR0.out x5_1 p186 q186
        cases e186
        replace p186 := eq_true p186
        replace q186 := eq_true q186
        have p187 : 0 ≤ (x5_1 : Int) := odt
        have q187 : x5_1 < (l1.length : Int) := odt
        obtain ⟨ad187, e187, hx187_0⟩ := Kd.at_int HR1.out x5_1 p187 q187
        cases e187
        replace p187 := eq_true p187
        replace q187 := eq_true q187
        go_wp2
        repeat (go_quiet (fail); try go_wp2)
        go_roundg k1
        case measure => have := HK1.out; omega
        case rel => exact ⟨(wrap64 (x5_1 + 1)), rG, H', ⟨by have := HK1.out; omega⟩, by repeat (first | exact Drawn0.refl _ | apply Drawn0.step)⟩
       ·rw [if_neg c7] at H
        have c7b0 : ((rd l0 x5_1) == (rd l1 x5_1)) = false := beq_eq_false_iff_ne.mpr c7
        exact absurd H (by simp)
      ·rw [if_neg c6] at H
       exact absurd H (by simp)
     ·rw [if_neg c5] at H
      exact absurd H (by simp)
    ·rw [if_neg c4] at H
     have c4b0 : decide (x5_1 < (l0.length : Int)) = false := decide_eq_false c4
     clear c4
     first | obtain rfl := Option.some.inj H | clear H
     go_wp2
     repeat (go_quiet (fail); try go_wp2)
     go_ret
     exact ⟨by first | rfl | (simp; done) | (simp [*]; done), by repeat (first | exact Drawn0.refl _ | apply Drawn0.step)⟩
 ·rw [if_neg c3] at H
  exact absurd H (by simp)
end Go.Proofs.Ytdbinpeglamnnaa.PP
