-- Written by the session's program hprint.py, over the kit's print program. Lean checks it.
import Derived.Test.YtglmahgliihkaaaPYx0
import Derived.Test.YtglmahgliihkaaaPYx3
namespace Go.Proofs.Ytglmahgliihkaaa.PY
open Go.RowKit Go.Proofs.YtglmahgliihkaaaW.PrintWords Go.Proofs.YtglmahgliihkaaaW.PrintLast Go.Proofs.YtglmahgliihkaaaW.PrintMore
attribute [local go_sem] max2_int min2_int max_two min_two max_three min_three max_four min_four   -- for this text's walks alone
set_option linter.unusedVariables false
set_option linter.unusedSimpArgs false
set_option maxHeartbeats 8000000
set_option maxRecDepth 100000

/-! ### laws_toDeclS: function 24 -/
def laws_toDeclS.l0 : Nat → List (S64) → List (S69) → Int → Option ((List (S69)))
 | 0, _, _, _ => none
 | k + 1, x0, x3, x4 => if x4 < (x0.length : Int) then (if 0 ≤ x4 then ((laws_toDecl.f ((rd_T64 x0 x4).f0) ((rd_T64 x0 x4).f1)).bind fun bt243 => (if x4 < (x3.length : Int) then (laws_toDeclS.l0 k x0 (x3.set (x4 : Int).toNat (⟨bt243.1, bt243.2⟩ : S69)) (wrap64 (x4 + 1))) else (none))) else (none)) else (some x3)
def laws_toDeclS.f (k : Nat) (l0 : List (S64)) : Option ((List (S69))) := if 0 ≤ (l0.length : Int) then (if ((l0.length : Int) : Int).toNat ≤ 8796093022208 then (laws_toDeclS.l0 k l0 (List.replicate ((l0.length : Int) : Int).toNat z69) 0) else (none)) else (none)
theorem laws_toDeclS.mono_l : ∀ k, (∀ y0 y1 y2, LeO (laws_toDeclS.l0 k y0 y1 y2) (laws_toDeclS.l0 (k + 1) y0 y1 y2))
 | 0 => fun _ _ _ r h => by simp [laws_toDeclS.l0] at h
 | k + 1 => by
  have ih0 := laws_toDeclS.mono_l k
  ·intro y0 y1 y2
   unfold laws_toDeclS.l0
   repeat' first
   | (with_reducible exact ih0 _ _ _)
   | (with_reducible exact LeO.refl _)
   | (with_reducible exact LeO.none _)
   | (with_reducible refine LeO.ite ?_ ?_)
   | (with_reducible refine LeO.bind ?_ (fun _ => ?_))
   | exact ih0 _ _ _
   | exact LeO.none _
   | refine LeO.ite ?_ ?_
   | refine LeO.bind ?_ (fun _ => ?_)
theorem laws_toDeclS.mono : ∀ a0 k, LeO (laws_toDeclS.f k a0) (laws_toDeclS.f (k + 1) a0) := by
 intro a0 k
 have ih0 := laws_toDeclS.mono_l k
 unfold laws_toDeclS.f
 repeat' first
   | (with_reducible exact ih0 _ _ _)
   | (with_reducible exact LeO.refl _)
   | (with_reducible exact LeO.none _)
   | (with_reducible refine LeO.ite ?_ ?_)
   | (with_reducible refine LeO.bind ?_ (fun _ => ?_))
   | exact ih0 _ _ _
   | exact LeO.none _
   | refine LeO.ite ?_ ?_
   | refine LeO.bind ?_ (fun _ => ?_)
theorem laws_toDeclS.calls (k : Nat) (A0 : Option Addr) (c0 : Nat) (l0 : List (S64)) (r : List (S69)) (w : World) (hr0 : Kd.C k64 w A0 l0.length l0) (hc0 : l0.length ≤ c0) (h : laws_toDeclS.f k l0 = some r) :
  Calls Try.prog 24 #[.slice A0 l0.length c0] w fun e w' => ∃ v0_ : Value, e = .returned (v0_) ∧ Kd.R k69 69 w' w.heap.size (fun _ => True) v0_ r ∧ Below w.heap.size w w' := by
 have hu64 := Try.underlying64
 have hu69 := Try.underlying69
 have HR0 := Aside0.mk hr0
 have HC0 := Aside0.mk hc0
 clear hr0 hc0
 have HB := Aside0.mk (Below.refl w.heap.size w)
 have H : (if 0 ≤ (l0.length : Int) then (if ((l0.length : Int) : Int).toNat ≤ 8796093022208 then (laws_toDeclS.l0 k l0 (List.replicate ((l0.length : Int) : Int).toNat z69) 0) else (none)) else (none)) = some r := h
 clear h
 obtain ⟨c2, H⟩ := if_som H
 obtain ⟨c2b0, c2b1⟩ := fcT c2
 clear c2
 obtain ⟨c3, H⟩ := if_som H
 obtain ⟨c3b0, c3b1⟩ := fcT c3
 clear c3
 obtain ⟨y239, hy239⟩ : ∃ y_ : List (S69), y_ = (List.replicate ((l0.length : Int) : Int).toNat z69) := ⟨_, rfl⟩
 replace H : (laws_toDeclS.l0 k l0 y239 0) = some r := by first | (rw [hy239]; with_reducible exact H) | (have H2_ := (Option.bind_some _ _).symm.trans H; rw [hy239]; with_reducible exact H2_) | (have H2_ := (Option.bind_some _ _).symm.trans H; with_reducible exact H2_) | with_reducible exact H | (rw [hy239]; exact H) | exact H
 have Ny239 := Aside0.mk hy239
 clear hy239
 have H' := Aside0.mk H
 clear H
 go_enter Try.func24, Try.ntmps24
 go_wp2_with (first | ((with_reducible refine gate_dst (N := 7) rfl ?_); refine Kd.R_make k69 _ 69 rfl (N := 7) rfl 30 _ _ rfl (l0.length : Int) rfl rfl Try.underlying30 (.agg #[(.string ⟨#[]⟩), (.string ⟨#[]⟩)]) 32 info69 rfl (by decide) (by omega) z69 (ok := fun _ => True) (okp := fun _ => True) (k69_mkM _ _ _ z69 ) (fun _ hk => hk) trivial (odt) (Nat.le_trans (Nat.mul_le_mul_right _ (odt : (l0.length : Int).toNat ≤ 8796093022208)) (by omega)) (Below.refl _ _) (Nat.le_refl _) ?_; intro v240 w4 ho5 hb hg_ hnew_; clear hg_ hnew_; (first | rw [← Ny239.out] at ho5 | (simp only [Int.reduceToNat] at ho5; rw [← Ny239.out] at ho5)); have HO241 := Aside0.mk (Kd.R_lower ho5 (below_size hB)); replace HB := Aside0.mk (below_step hB hb); clear hb ho5))
 go_loopg [4] k (fun kq v4 w' => ∃ (x3_1 : List (S69)) (x4_1 : Int), v4 = .int .i64 x4_1 ∧ Aside0 (laws_toDeclS.l0 kq l0 x3_1 x4_1 = some r) ∧ Aside0 (kq ≤ k) ∧ Aside0 (Kd.R k69 69 w' w.heap.size (fun _ => True) v240 x3_1) ∧ Aside0 (Below w.heap.size w w'))
 case atStart => exact ⟨(y239), (0), rG, H', ⟨Nat.le_refl _⟩, ⟨by (with_reducible repeat (first|apply rA|apply rN|apply rD)); exact HO241.out⟩, ⟨hB⟩⟩
 case round =>
  clear H'
  try clear c3; try clear c3b1; try clear c3b0; try clear c2; try clear c2b1; try clear c2b0
  obtain ⟨x3_1, x4_1, rfl, HA, HK1, HO_3, HB⟩ := hrel
  cases gk with
  | zero => exact absurd HA.out (by simp [laws_toDeclS.l0])
  | succ k1 =>
   have H := HA.out
   clear HA
   simp only [laws_toDeclS.l0] at H
   by_cases c6 : x4_1 < (l0.length : Int)
   ·rw [if_pos c6] at H
    have c6b0 : decide (x4_1 < (l0.length : Int)) = true := decide_eq_true c6
    clear c6
    obtain ⟨c7, H⟩ := if_som H
    have c7b0 : decide (0 ≤ x4_1) = true := decide_eq_true c7
    clear c7
    replace H := Option.bind_eq_some_iff.mp H
    obtain ⟨⟨t243, t244⟩, A80, H⟩ := H
    try dsimp only at H
    have A8 := Aside0.mk A80
    clear A80
    have p242 : 0 ≤ (x4_1 : Int) := odt
    have q242 : x4_1 < (l0.length : Int) := odt
    obtain ⟨ad242, e242, hx242_0, hx242_1⟩ := at_T64 HR0.out x4_1 p242 q242
    cases e242
    replace hx242_0 := pw_cell_below HB.out hx242_0
    replace hx242_1 := pw_cell_below HB.out hx242_1
    replace p242 := eq_true p242
    replace q242 := eq_true q242
    go_wp2_with (first | ((with_reducible refine gate_callee (f := 44) rfl ?_); refine goesL_ (some 20) rfl rfl Try.func44 (by kernel_rfl) rfl #[.agg #[.string ((rd_T64 l0 x4_1).f0), .string ((rd_T64 l0 x4_1).f1)]] rfl mA ?_; (with_reducible refine (laws_toDecl.calls ((rd_T64 l0 x4_1).f0) ((rd_T64 l0 x4_1).f1) t243 t244 _ A8.out).mono ?_); rintro e w9 ⟨rfl, hb⟩; refine ⟨_, rfl, ?_⟩; replace HO_3 := Aside0.mk (Kd.R_below (by (with_reducible repeat (first|apply rA|apply rN|apply rD)); exact HO_3.out) hb); replace HB := Aside0.mk (below_step hB hb); (try clear hb); (try clear hb2); (try clear hk); (try clear hi); refine halt_ ?_; intro q_ hq_))
    obtain ⟨rfl⟩ := hq_
    obtain ⟨c10, H⟩ := if_som H
    have c10b0 : decide (x4_1 < (x3_1.length : Int)) = true := decide_eq_true c10
    clear c10
    obtain ⟨y245, hy245⟩ : ∃ y_ : List (S69), y_ = (x3_1.set (x4_1 : Int).toNat (⟨t243, t244⟩ : S69)) := ⟨_, rfl⟩
    replace H : (laws_toDeclS.l0 k1 l0 y245 (wrap64 (x4_1 + 1))) = some r := by first | (rw [hy245]; with_reducible exact H) | (have H2_ := (Option.bind_some _ _).symm.trans H; rw [hy245]; with_reducible exact H2_) | (have H2_ := (Option.bind_some _ _).symm.trans H; with_reducible exact H2_) | with_reducible exact H | (rw [hy245]; exact H) | exact H
    have Ny245 := Aside0.mk hy245
    clear hy245
    have H' := Aside0.mk H
    clear H
    have p11 : 0 ≤ (x4_1 : Int) := odt
    have q11 : (x4_1 : Int) < ((x3_1.length : Int) : Int) := odt
    obtain ⟨go11, co11, eo11, gb11, gl11, cl11, HG11⟩ := Kd.R_form HO_3.out (by omega)
    (first | cases eo11 | (injection eo11 with ea_ en_ ec_; (first | subst ea_ | (injection ea_ with ea_; subst ea_)); subst ec_; clear en_))
    have GB11 := Aside0.mk gb11
    have GG11 := Aside0.mk HG11
    clear gb11 gl11 HG11
    obtain ⟨ce11, hcl11, hM11, hcc11, hfr11⟩ := Kd.R_elem HO_3.out z69 (x4_1 : Int) p11 q11
    obtain rfl := k69_openM hM11
    have hx11_0 : w9.cell? ⟨go11, (x4_1 : Int).toNat * 2, none⟩ = some (.string ((rd_T69 x3_1 x4_1).f0)) := hcc11 0 _ rfl
    have hx11_1 : w9.cell? ⟨go11, (x4_1 : Int).toNat * 2 + 1, none⟩ = some (.string ((rd_T69 x3_1 x4_1).f1)) := hcc11 1 _ rfl
    have hf11_0 : w9.frozen? ⟨go11, (x4_1 : Int).toNat * 2, none⟩ = false := hfr11 0
    have hf11_1 : w9.frozen? ⟨go11, (x4_1 : Int).toNat * 2 + 1, none⟩ = false := hfr11 1
    clear hcl11 hcc11 hfr11 hM11
    replace p11 := eq_true p11
    replace q11 := eq_true q11
    have HX12 := Aside0.mk (show Kd.R k69 69 w9 w.heap.size (fun _ => True) (.slice (some ⟨go11, 0, none⟩) x3_1.length co11) x3_1 from (by (with_reducible repeat (first|apply rA|apply rN|apply rD)); exact HO_3.out))
    obtain ⟨ce12, hcl12, hM12, hcc12, hfr12⟩ := Kd.R_elem HX12.out z69 (x4_1 : Int) (odt) (by have h_ : (x4_1 : Int) < ((x3_1.length : Int) : Int) := odt; first | exact h_ | (have e_ := (Kd.R_reads' HO_3.out).1; omega) | simpa using h_)
    obtain rfl := k69_openM hM12
    have HP12 := Kd.R_seg HX12.out (x4_1 : Int) (odt) (by have h_ : (x4_1 : Int) < ((x3_1.length : Int) : Int) := odt; first | exact h_ | (have e_ := (Kd.R_reads' HO_3.out).1; omega) | simpa using h_) (seg := [.string t243, .string t244]) (j := 0) hcl12 hcc12 (show 2 ≤ 2 from by decide) (x' := (⟨t243, t244⟩ : S69)) (k69_mkM _ _ _ (⟨t243, t244⟩ : S69) ) (fun _ hk => hk)
    have hx12_0 := hcc12 0 _ rfl
    (try simp only [show (k69).sz = 2 from rfl, Nat.mul_one, Nat.add_zero] at hx12_0)
    have hf12_0 := hfr12 0
    (try simp only [show (k69).sz = 2 from rfl, Nat.mul_one, Nat.add_zero] at hf12_0)
    have hx12_1 := hcc12 1 _ rfl
    (try simp only [show (k69).sz = 2 from rfl, Nat.mul_one, Nat.add_zero] at hx12_1)
    have hf12_1 := hfr12 1
    (try simp only [show (k69).sz = 2 from rfl, Nat.mul_one, Nat.add_zero] at hf12_1)
    clear hcl12 hcc12 hfr12 hM12
    go_wp2_with (first | ((with_reducible refine gate_store (t := 69) (p := 21) rfl ?_); refine store_event (t := 69) (p := 21) (v := ?vo_w13) (w1 := ((w9.setCell ⟨go11, (x4_1 : Int).toNat * 2, none⟩ (.string t243)).setCell ⟨go11, (x4_1 : Int).toNat * 2 + 1, none⟩ (.string t244))) ?hg ?ho ?hn ?hr ?_; (case ho => rfl); (case hg => rfl); (case hn => rfl); (case hr => first | (go_simp; done) | (go_simp; rfl)); intro w13 hw; have hg : w9.grownBy w13 (some go11) := (by rw [hw]; exact HP12.2); have hp_ : Kd.R k69 69 w13 w.heap.size (fun _ => True) (.slice (some ⟨go11, 0, none⟩) x3_1.length co11) y245 := (by rw [hw, Ny245.out]; exact HP12.1); clear HP12; replace HO_3 := Aside0.mk (hp_); replace HB := Aside0.mk ((by rw [hw]; exact below_set (below_set (HB.out) GB11.out) GB11.out : Below w.heap.size w w13)); clear hg hw hp_))
    go_roundg k1
    case measure => have := HK1.out; omega
    case rel => exact ⟨(y245), (wrap64 (x4_1 + 1)), rG, H', ⟨by have := HK1.out; omega⟩, ⟨by (with_reducible repeat (first|apply rA|apply rN|apply rD)); exact HO_3.out⟩, ⟨hB⟩⟩
   ·rw [if_neg c6] at H
    have c6b0 : decide (x4_1 < (l0.length : Int)) = false := decide_eq_false c6
    clear c6
    obtain rfl := Option.some.inj H
    go_wp2
    go_ret
    exact ⟨_, rE, by (with_reducible repeat (first|apply rA|apply rN|apply rD)); exact HO_3.out, hB⟩
/-! ### laws_toAttr: function 45 -/
def laws_toAttr.f (a0_0 : ByteArray) (a0_1 : ByteArray) (a0_2 : ByteArray) (a0_3 : ByteArray) : Option (ByteArray × ByteArray × ByteArray × ByteArray) := some (a0_0, a0_1, a0_2, a0_3)
theorem laws_toAttr.calls (a0_0 : ByteArray) (a0_1 : ByteArray) (a0_2 : ByteArray) (a0_3 : ByteArray) (r1 : ByteArray) (r2 : ByteArray) (r3 : ByteArray) (r4 : ByteArray) (w : World) (h : laws_toAttr.f a0_0 a0_1 a0_2 a0_3 = some (r1, r2, r3, r4)) :
  Calls Try.prog 45 #[.agg #[.string a0_0, .string a0_1, .string a0_2, .string a0_3]] w fun e w' => e = .returned (.agg #[.string r1, .string r2, .string r3, .string r4]) ∧ Below w.heap.size w w' := by
 have hu67 := Try.underlying67
 have hu71 := Try.underlying71
 have HB := Aside0.mk (Below.refl w.heap.size w)
 have H : (some (a0_0, a0_1, a0_2, a0_3)) = some (r1, r2, r3, r4) := h
 clear h
 simp only [Option.some.injEq, Prod.mk.injEq] at H
 obtain ⟨rfl, rfl, rfl, rfl⟩ := H
 go_enter Try.func45, Try.ntmps45
 go_wp2_with (first | ((with_reducible refine gate_dst (N := 1) rfl ?_); refine box_event ?hg (N := 1) ?hd (cs := #[.string a0_0, .string a0_1, .string a0_2, .string a0_3]) (t := 67) ?hr ?_; (case hd => rfl); (case hg => rfl); (case hr => first | (go_simp; done) | (go_simp; rfl)); intro gb246 hg w2 hbox hb; have BK246 := Aside0.mk (hbox); have GW246 := Aside0.mk ((by rw [hg]; exact (below_size hB) : w.heap.size ≤ gb246)); have GE246 := Aside0.mk ((by rw [hg]; exact (below_size hB) : w.heap.size ≤ gb246)); replace HB := Aside0.mk (below_step hB hb); clear hb hbox hg) | ((with_reducible refine gate_dst (N := 2) rfl ?_); refine box_event ?hg (N := 2) ?hd (cs := #[.string (⟨#[]⟩ : ByteArray), .string (⟨#[]⟩ : ByteArray), .string (⟨#[]⟩ : ByteArray), .string (⟨#[]⟩ : ByteArray)]) (t := 71) ?hr ?_; (case hd => rfl); (case hg => rfl); (case hr => first | (go_simp; done) | (go_simp; rfl)); intro gb247 hg w3 hbox hb; have BK247 := Aside0.mk (hbox); have GW247 := Aside0.mk ((by rw [hg]; exact (below_size hB) : w.heap.size ≤ gb247)); have GE247 := Aside0.mk ((by rw [hg]; exact (below_size hB) : w.heap.size ≤ gb247)); replace HB := Aside0.mk (below_step hB hb); have NB246_247 := Aside0.mk ((by rw [hg]; exact Nat.ne_of_lt (blk_lt (g := gb246) (by (with_reducible repeat (first | refine bN ?_ _|refine bD ?_|refine bA ?_ _)); exact BK246.out)) : gb246 ≠ gb247)); have NB247_246 := Aside0.mk ((by rw [hg]; exact Nat.ne_of_gt (blk_lt (g := gb246) (by (with_reducible repeat (first | refine bN ?_ _|refine bD ?_|refine bA ?_ _)); exact BK246.out)) : gb247 ≠ gb246)); replace BK246 := Aside0.mk (blk_below (g := gb246) (by (with_reducible repeat (first | refine bN ?_ _|refine bD ?_|refine bA ?_ _)); exact BK246.out) hb); clear hb hbox hg) | ((with_reducible refine gate_dst (N := 3) rfl ?_); refine box_event ?hg (N := 3) ?hd (cs := #[.string (⟨#[]⟩ : ByteArray), .string (⟨#[]⟩ : ByteArray), .string (⟨#[]⟩ : ByteArray), .string (⟨#[]⟩ : ByteArray)]) (t := 71) ?hr ?_; (case hd => rfl); (case hg => rfl); (case hr => first | (go_simp; done) | (go_simp; rfl)); intro gb248 hg w4 hbox hb; have BK248 := Aside0.mk (hbox); have GW248 := Aside0.mk ((by rw [hg]; exact (below_size hB) : w.heap.size ≤ gb248)); have GE248 := Aside0.mk ((by rw [hg]; exact (below_size hB) : w.heap.size ≤ gb248)); replace HB := Aside0.mk (below_step hB hb); have NB246_248 := Aside0.mk ((by rw [hg]; exact Nat.ne_of_lt (blk_lt (g := gb246) (by (with_reducible repeat (first | refine bN ?_ _|refine bD ?_|refine bA ?_ _)); exact BK246.out)) : gb246 ≠ gb248)); have NB248_246 := Aside0.mk ((by rw [hg]; exact Nat.ne_of_gt (blk_lt (g := gb246) (by (with_reducible repeat (first | refine bN ?_ _|refine bD ?_|refine bA ?_ _)); exact BK246.out)) : gb248 ≠ gb246)); replace BK246 := Aside0.mk (blk_below (g := gb246) (by (with_reducible repeat (first | refine bN ?_ _|refine bD ?_|refine bA ?_ _)); exact BK246.out) hb); have NB247_248 := Aside0.mk ((by rw [hg]; exact Nat.ne_of_lt (blk_lt (g := gb247) (by (with_reducible repeat (first | refine bN ?_ _|refine bD ?_|refine bA ?_ _)); exact BK247.out)) : gb247 ≠ gb248)); have NB248_247 := Aside0.mk ((by rw [hg]; exact Nat.ne_of_gt (blk_lt (g := gb247) (by (with_reducible repeat (first | refine bN ?_ _|refine bD ?_|refine bA ?_ _)); exact BK247.out)) : gb248 ≠ gb247)); replace BK247 := Aside0.mk (blk_below (g := gb247) (by (with_reducible repeat (first | refine bN ?_ _|refine bD ?_|refine bA ?_ _)); exact BK247.out) hb); clear hb hbox hg; have hnb5 := NB246_247.out; have hnc5 := NB247_246.out; have hnb6 := NB246_248.out; have hnc6 := NB248_246.out; obtain ⟨hcz7_0, hcz7_1, hcz7_2, hcz7_3⟩ := bc4 BK246.out; obtain ⟨hfz7_0, hfz7_1, hfz7_2, hfz7_3⟩ := bf4 BK246.out; have hnb8 := NB248_247.out; have hnc8 := NB247_248.out; obtain ⟨hcz9_0, hcz9_1, hcz9_2, hcz9_3⟩ := bc4 BK248.out; obtain ⟨hfz9_0, hfz9_1, hfz9_2, hfz9_3⟩ := bf4 BK248.out; obtain ⟨hcz10_0, hcz10_1, hcz10_2, hcz10_3⟩ := bc4 BK247.out; obtain ⟨hfz10_0, hfz10_1, hfz10_2, hfz10_3⟩ := bf4 BK247.out))
 refine bodyPost_ret (results_cell_row rfl _ _ gb247 71 #[.string a0_0, .string a0_1, .string a0_2, .string a0_3] (0, 0) _ rfl (by (with_reducible repeat (first | refine bN ?_ _|refine bD ?_|refine bA ?_ _)); exact put4 (by (with_reducible repeat (first | refine bN ?_ _|refine bD ?_|refine bA ?_ _)); exact pfa4 (hn := NB247_248.out) (by (with_reducible repeat (first | refine bN ?_ _|refine bD ?_|refine bA ?_ _)); exact BK247.out))) Try.underlying71 rfl (by kernel_rfl)) rfl ?_
 exact ⟨rE, hB⟩

/-! ### laws_toAttrS: function 25 -/
def laws_toAttrS.l0 : Nat → List (S67) → List (S71) → Int → Option ((List (S71)))
 | 0, _, _, _ => none
 | k + 1, x0, x3, x4 => if x4 < (x0.length : Int) then (if 0 ≤ x4 then ((laws_toAttr.f ((rd_T67 x0 x4).f0) ((rd_T67 x0 x4).f1) ((rd_T67 x0 x4).f2) ((rd_T67 x0 x4).f3)).bind fun bt253 => (if x4 < (x3.length : Int) then (laws_toAttrS.l0 k x0 (x3.set (x4 : Int).toNat (⟨bt253.1, bt253.2.1, bt253.2.2.1, bt253.2.2.2⟩ : S71)) (wrap64 (x4 + 1))) else (none))) else (none)) else (some x3)
def laws_toAttrS.f (k : Nat) (l0 : List (S67)) : Option ((List (S71))) := if 0 ≤ (l0.length : Int) then (if ((l0.length : Int) : Int).toNat ≤ 4398046511104 then (laws_toAttrS.l0 k l0 (List.replicate ((l0.length : Int) : Int).toNat z71) 0) else (none)) else (none)
theorem laws_toAttrS.mono_l : ∀ k, (∀ y0 y1 y2, LeO (laws_toAttrS.l0 k y0 y1 y2) (laws_toAttrS.l0 (k + 1) y0 y1 y2))
 | 0 => fun _ _ _ r h => by simp [laws_toAttrS.l0] at h
 | k + 1 => by
  have ih0 := laws_toAttrS.mono_l k
  ·intro y0 y1 y2
   unfold laws_toAttrS.l0
   repeat' first
   | (with_reducible exact ih0 _ _ _)
   | (with_reducible exact LeO.refl _)
   | (with_reducible exact LeO.none _)
   | (with_reducible refine LeO.ite ?_ ?_)
   | (with_reducible refine LeO.bind ?_ (fun _ => ?_))
   | exact ih0 _ _ _
   | exact LeO.none _
   | refine LeO.ite ?_ ?_
   | refine LeO.bind ?_ (fun _ => ?_)
theorem laws_toAttrS.mono : ∀ a0 k, LeO (laws_toAttrS.f k a0) (laws_toAttrS.f (k + 1) a0) := by
 intro a0 k
 have ih0 := laws_toAttrS.mono_l k
 unfold laws_toAttrS.f
 repeat' first
   | (with_reducible exact ih0 _ _ _)
   | (with_reducible exact LeO.refl _)
   | (with_reducible exact LeO.none _)
   | (with_reducible refine LeO.ite ?_ ?_)
   | (with_reducible refine LeO.bind ?_ (fun _ => ?_))
   | exact ih0 _ _ _
   | exact LeO.none _
   | refine LeO.ite ?_ ?_
   | refine LeO.bind ?_ (fun _ => ?_)
theorem laws_toAttrS.calls (k : Nat) (A0 : Option Addr) (c0 : Nat) (l0 : List (S67)) (r : List (S71)) (w : World) (hr0 : Kd.C k67 w A0 l0.length l0) (hc0 : l0.length ≤ c0) (h : laws_toAttrS.f k l0 = some r) :
  Calls Try.prog 25 #[.slice A0 l0.length c0] w fun e w' => ∃ v0_ : Value, e = .returned (v0_) ∧ Kd.R k71 71 w' w.heap.size (fun _ => True) v0_ r ∧ Below w.heap.size w w' := by
 have hu67 := Try.underlying67
 have hu71 := Try.underlying71
 have HR0 := Aside0.mk hr0
 have HC0 := Aside0.mk hc0
 clear hr0 hc0
 have HB := Aside0.mk (Below.refl w.heap.size w)
 have H : (if 0 ≤ (l0.length : Int) then (if ((l0.length : Int) : Int).toNat ≤ 4398046511104 then (laws_toAttrS.l0 k l0 (List.replicate ((l0.length : Int) : Int).toNat z71) 0) else (none)) else (none)) = some r := h
 clear h
 obtain ⟨c2, H⟩ := if_som H
 obtain ⟨c2b0, c2b1⟩ := fcT c2
 clear c2
 obtain ⟨c3, H⟩ := if_som H
 obtain ⟨c3b0, c3b1⟩ := fcT c3
 clear c3
 obtain ⟨y249, hy249⟩ : ∃ y_ : List (S71), y_ = (List.replicate ((l0.length : Int) : Int).toNat z71) := ⟨_, rfl⟩
 replace H : (laws_toAttrS.l0 k l0 y249 0) = some r := by first | (rw [hy249]; with_reducible exact H) | (have H2_ := (Option.bind_some _ _).symm.trans H; rw [hy249]; with_reducible exact H2_) | (have H2_ := (Option.bind_some _ _).symm.trans H; with_reducible exact H2_) | with_reducible exact H | (rw [hy249]; exact H) | exact H
 have Ny249 := Aside0.mk hy249
 clear hy249
 have H' := Aside0.mk H
 clear H
 go_enter Try.func25, Try.ntmps25
 go_wp2_with (first | ((with_reducible refine gate_dst (N := 7) rfl ?_); refine Kd.R_make k71 _ 71 rfl (N := 7) rfl 31 _ _ rfl (l0.length : Int) rfl rfl Try.underlying31 (.agg #[(.string ⟨#[]⟩), (.string ⟨#[]⟩), (.string ⟨#[]⟩), (.string ⟨#[]⟩)]) 64 info71 rfl (by decide) (by omega) z71 (ok := fun _ => True) (okp := fun _ => True) (k71_mkM _ _ _ z71 ) (fun _ hk => hk) trivial (odt) (Nat.le_trans (Nat.mul_le_mul_right _ (odt : (l0.length : Int).toNat ≤ 4398046511104)) (by omega)) (Below.refl _ _) (Nat.le_refl _) ?_; intro v250 w4 ho5 hb hg_ hnew_; clear hg_ hnew_; (first | rw [← Ny249.out] at ho5 | (simp only [Int.reduceToNat] at ho5; rw [← Ny249.out] at ho5)); have HO251 := Aside0.mk (Kd.R_lower ho5 (below_size hB)); replace HB := Aside0.mk (below_step hB hb); clear hb ho5))
 go_loopg [4] k (fun kq v4 w' => ∃ (x3_1 : List (S71)) (x4_1 : Int), v4 = .int .i64 x4_1 ∧ Aside0 (laws_toAttrS.l0 kq l0 x3_1 x4_1 = some r) ∧ Aside0 (kq ≤ k) ∧ Aside0 (Kd.R k71 71 w' w.heap.size (fun _ => True) v250 x3_1) ∧ Aside0 (Below w.heap.size w w'))
 case atStart => exact ⟨(y249), (0), rG, H', ⟨Nat.le_refl _⟩, ⟨by (with_reducible repeat (first|apply rA|apply rN|apply rD)); exact HO251.out⟩, ⟨hB⟩⟩
 case round =>
  clear H'
  try clear c3; try clear c3b1; try clear c3b0; try clear c2; try clear c2b1; try clear c2b0
  obtain ⟨x3_1, x4_1, rfl, HA, HK1, HO_3, HB⟩ := hrel
  cases gk with
  | zero => exact absurd HA.out (by simp [laws_toAttrS.l0])
  | succ k1 =>
   have H := HA.out
   clear HA
   simp only [laws_toAttrS.l0] at H
   by_cases c6 : x4_1 < (l0.length : Int)
   ·rw [if_pos c6] at H
    have c6b0 : decide (x4_1 < (l0.length : Int)) = true := decide_eq_true c6
    clear c6
    obtain ⟨c7, H⟩ := if_som H
    have c7b0 : decide (0 ≤ x4_1) = true := decide_eq_true c7
    clear c7
    replace H := Option.bind_eq_some_iff.mp H
    obtain ⟨⟨t253, t254, t255, t256⟩, A80, H⟩ := H
    try dsimp only at H
    have A8 := Aside0.mk A80
    clear A80
    have p252 : 0 ≤ (x4_1 : Int) := odt
    have q252 : x4_1 < (l0.length : Int) := odt
    obtain ⟨ad252, e252, hx252_0, hx252_1, hx252_2, hx252_3⟩ := at_T67 HR0.out x4_1 p252 q252
    cases e252
    replace hx252_0 := pw_cell_below HB.out hx252_0
    replace hx252_1 := pw_cell_below HB.out hx252_1
    replace hx252_2 := pw_cell_below HB.out hx252_2
    replace hx252_3 := pw_cell_below HB.out hx252_3
    replace p252 := eq_true p252
    replace q252 := eq_true q252
    go_wp2_with (first | ((with_reducible refine gate_callee (f := 45) rfl ?_); refine goesL_ (some 20) rfl rfl Try.func45 (by kernel_rfl) rfl #[.agg #[.string ((rd_T67 l0 x4_1).f0), .string ((rd_T67 l0 x4_1).f1), .string ((rd_T67 l0 x4_1).f2), .string ((rd_T67 l0 x4_1).f3)]] rfl mA ?_; (with_reducible refine (laws_toAttr.calls ((rd_T67 l0 x4_1).f0) ((rd_T67 l0 x4_1).f1) ((rd_T67 l0 x4_1).f2) ((rd_T67 l0 x4_1).f3) t253 t254 t255 t256 _ A8.out).mono ?_); rintro e w9 ⟨rfl, hb⟩; refine ⟨_, rfl, ?_⟩; replace HO_3 := Aside0.mk (Kd.R_below (by (with_reducible repeat (first|apply rA|apply rN|apply rD)); exact HO_3.out) hb); replace HB := Aside0.mk (below_step hB hb); (try clear hb); (try clear hb2); (try clear hk); (try clear hi); refine halt_ ?_; intro q_ hq_))
    obtain ⟨rfl⟩ := hq_
    obtain ⟨c10, H⟩ := if_som H
    have c10b0 : decide (x4_1 < (x3_1.length : Int)) = true := decide_eq_true c10
    clear c10
    obtain ⟨y257, hy257⟩ : ∃ y_ : List (S71), y_ = (x3_1.set (x4_1 : Int).toNat (⟨t253, t254, t255, t256⟩ : S71)) := ⟨_, rfl⟩
    replace H : (laws_toAttrS.l0 k1 l0 y257 (wrap64 (x4_1 + 1))) = some r := by first | (rw [hy257]; with_reducible exact H) | (have H2_ := (Option.bind_some _ _).symm.trans H; rw [hy257]; with_reducible exact H2_) | (have H2_ := (Option.bind_some _ _).symm.trans H; with_reducible exact H2_) | with_reducible exact H | (rw [hy257]; exact H) | exact H
    have Ny257 := Aside0.mk hy257
    clear hy257
    have H' := Aside0.mk H
    clear H
    have p11 : 0 ≤ (x4_1 : Int) := odt
    have q11 : (x4_1 : Int) < ((x3_1.length : Int) : Int) := odt
    obtain ⟨go11, co11, eo11, gb11, gl11, cl11, HG11⟩ := Kd.R_form HO_3.out (by omega)
    (first | cases eo11 | (injection eo11 with ea_ en_ ec_; (first | subst ea_ | (injection ea_ with ea_; subst ea_)); subst ec_; clear en_))
    have GB11 := Aside0.mk gb11
    have GG11 := Aside0.mk HG11
    clear gb11 gl11 HG11
    obtain ⟨ce11, hcl11, hM11, hcc11, hfr11⟩ := Kd.R_elem HO_3.out z71 (x4_1 : Int) p11 q11
    obtain rfl := k71_openM hM11
    have hx11_0 : w9.cell? ⟨go11, (x4_1 : Int).toNat * 4, none⟩ = some (.string ((rd_T71 x3_1 x4_1).f0)) := hcc11 0 _ rfl
    have hx11_1 : w9.cell? ⟨go11, (x4_1 : Int).toNat * 4 + 1, none⟩ = some (.string ((rd_T71 x3_1 x4_1).f1)) := hcc11 1 _ rfl
    have hx11_2 : w9.cell? ⟨go11, (x4_1 : Int).toNat * 4 + 2, none⟩ = some (.string ((rd_T71 x3_1 x4_1).f2)) := hcc11 2 _ rfl
    have hx11_3 : w9.cell? ⟨go11, (x4_1 : Int).toNat * 4 + 3, none⟩ = some (.string ((rd_T71 x3_1 x4_1).f3)) := hcc11 3 _ rfl
    have hf11_0 : w9.frozen? ⟨go11, (x4_1 : Int).toNat * 4, none⟩ = false := hfr11 0
    have hf11_1 : w9.frozen? ⟨go11, (x4_1 : Int).toNat * 4 + 1, none⟩ = false := hfr11 1
    have hf11_2 : w9.frozen? ⟨go11, (x4_1 : Int).toNat * 4 + 2, none⟩ = false := hfr11 2
    have hf11_3 : w9.frozen? ⟨go11, (x4_1 : Int).toNat * 4 + 3, none⟩ = false := hfr11 3
    clear hcl11 hcc11 hfr11 hM11
    replace p11 := eq_true p11
    replace q11 := eq_true q11
    have HX12 := Aside0.mk (show Kd.R k71 71 w9 w.heap.size (fun _ => True) (.slice (some ⟨go11, 0, none⟩) x3_1.length co11) x3_1 from (by (with_reducible repeat (first|apply rA|apply rN|apply rD)); exact HO_3.out))
    obtain ⟨ce12, hcl12, hM12, hcc12, hfr12⟩ := Kd.R_elem HX12.out z71 (x4_1 : Int) (odt) (by have h_ : (x4_1 : Int) < ((x3_1.length : Int) : Int) := odt; first | exact h_ | (have e_ := (Kd.R_reads' HO_3.out).1; omega) | simpa using h_)
    obtain rfl := k71_openM hM12
    have HP12 := Kd.R_seg HX12.out (x4_1 : Int) (odt) (by have h_ : (x4_1 : Int) < ((x3_1.length : Int) : Int) := odt; first | exact h_ | (have e_ := (Kd.R_reads' HO_3.out).1; omega) | simpa using h_) (seg := [.string t253, .string t254, .string t255, .string t256]) (j := 0) hcl12 hcc12 (show 4 ≤ 4 from by decide) (x' := (⟨t253, t254, t255, t256⟩ : S71)) (k71_mkM _ _ _ (⟨t253, t254, t255, t256⟩ : S71) ) (fun _ hk => hk)
    have hx12_0 := hcc12 0 _ rfl
    (try simp only [show (k71).sz = 4 from rfl, Nat.mul_one, Nat.add_zero] at hx12_0)
    have hf12_0 := hfr12 0
    (try simp only [show (k71).sz = 4 from rfl, Nat.mul_one, Nat.add_zero] at hf12_0)
    have hx12_1 := hcc12 1 _ rfl
    (try simp only [show (k71).sz = 4 from rfl, Nat.mul_one, Nat.add_zero] at hx12_1)
    have hf12_1 := hfr12 1
    (try simp only [show (k71).sz = 4 from rfl, Nat.mul_one, Nat.add_zero] at hf12_1)
    have hx12_2 := hcc12 2 _ rfl
    (try simp only [show (k71).sz = 4 from rfl, Nat.mul_one, Nat.add_zero] at hx12_2)
    have hf12_2 := hfr12 2
    (try simp only [show (k71).sz = 4 from rfl, Nat.mul_one, Nat.add_zero] at hf12_2)
    have hx12_3 := hcc12 3 _ rfl
    (try simp only [show (k71).sz = 4 from rfl, Nat.mul_one, Nat.add_zero] at hx12_3)
    have hf12_3 := hfr12 3
    (try simp only [show (k71).sz = 4 from rfl, Nat.mul_one, Nat.add_zero] at hf12_3)
    clear hcl12 hcc12 hfr12 hM12
    go_wp2_with (first | ((with_reducible refine gate_store (t := 71) (p := 21) rfl ?_); refine store_event (t := 71) (p := 21) (v := ?vo_w13) (w1 := ((((w9.setCell ⟨go11, (x4_1 : Int).toNat * 4, none⟩ (.string t253)).setCell ⟨go11, (x4_1 : Int).toNat * 4 + 1, none⟩ (.string t254)).setCell ⟨go11, (x4_1 : Int).toNat * 4 + 2, none⟩ (.string t255)).setCell ⟨go11, (x4_1 : Int).toNat * 4 + 3, none⟩ (.string t256))) ?hg ?ho ?hn ?hr ?_; (case ho => rfl); (case hg => rfl); (case hn => rfl); (case hr => first | (go_simp; done) | (go_simp; rfl)); intro w13 hw; have hg : w9.grownBy w13 (some go11) := (by rw [hw]; exact HP12.2); have hp_ : Kd.R k71 71 w13 w.heap.size (fun _ => True) (.slice (some ⟨go11, 0, none⟩) x3_1.length co11) y257 := (by rw [hw, Ny257.out]; exact HP12.1); clear HP12; replace HO_3 := Aside0.mk (hp_); replace HB := Aside0.mk ((by rw [hw]; exact below_set (below_set (below_set (below_set (HB.out) GB11.out) GB11.out) GB11.out) GB11.out : Below w.heap.size w w13)); clear hg hw hp_))
    go_roundg k1
    case measure => have := HK1.out; omega
    case rel => exact ⟨(y257), (wrap64 (x4_1 + 1)), rG, H', ⟨by have := HK1.out; omega⟩, ⟨by (with_reducible repeat (first|apply rA|apply rN|apply rD)); exact HO_3.out⟩, ⟨hB⟩⟩
   ·rw [if_neg c6] at H
    have c6b0 : decide (x4_1 < (l0.length : Int)) = false := decide_eq_false c6
    clear c6
    obtain rfl := Option.some.inj H
    go_wp2
    go_ret
    exact ⟨_, rE, by (with_reducible repeat (first|apply rA|apply rN|apply rD)); exact HO_3.out, hB⟩
-- laws_toNode: beside laws_toNodeS

/-! ### laws_toIntS: function 8 -/
def laws_toIntS.l0 : Nat → List Int → List Int → Int → Option (List Int)
 | 0, _, _, _ => none
 | k + 1, x0, x3, x4 => if x4 < (x0.length : Int) then (if 0 ≤ x4 then (if x4 < (x3.length : Int) then (laws_toIntS.l0 k x0 (x3.set (x4 : Int).toNat (rd x0 x4)) (wrap64 (x4 + 1))) else (none)) else (none)) else (some x3)
def laws_toIntS.f (k : Nat) (l0 : List Int) : Option (List Int) := if 0 ≤ (l0.length : Int) then (if ((l0.length : Int) : Int).toNat ≤ 35184372088832 then (laws_toIntS.l0 k l0 (List.replicate ((l0.length : Int) : Int).toNat 0) 0) else (none)) else (none)
theorem laws_toIntS.calls (k : Nat) (A0 : Option Addr) (c0 : Nat) (l0 : List Int) (r : List Int) (w : World) (hr0 : Kd.C (Kd.int .i64) w A0 l0.length l0) (hc0 : l0.length ≤ c0) (h : laws_toIntS.f k l0 = some r) :
  Calls Try.prog 8 #[.slice A0 l0.length c0] w fun e w' => ∃ v0_ : Value, e = .returned (v0_) ∧ Kd.R (Kd.int .i64) 3 w' w.heap.size (fun _ => True) v0_ r ∧ Below w.heap.size w w' := by
 have HR0 := Aside0.mk hr0
 have HC0 := Aside0.mk hc0
 clear hr0 hc0
 have HB := Aside0.mk (Below.refl w.heap.size w)
 have H : (if 0 ≤ (l0.length : Int) then (if ((l0.length : Int) : Int).toNat ≤ 35184372088832 then (laws_toIntS.l0 k l0 (List.replicate ((l0.length : Int) : Int).toNat 0) 0) else (none)) else (none)) = some r := h
 clear h
 obtain ⟨c2, H⟩ := if_som H
 obtain ⟨c2b0, c2b1⟩ := fcT c2
 clear c2
 obtain ⟨c3, H⟩ := if_som H
 obtain ⟨c3b0, c3b1⟩ := fcT c3
 clear c3
 obtain ⟨y270, hy270⟩ : ∃ y_ : List Int, y_ = (List.replicate ((l0.length : Int) : Int).toNat 0) := ⟨_, rfl⟩
 replace H : (laws_toIntS.l0 k l0 y270 0) = some r := by first | (rw [hy270]; with_reducible exact H) | (have H2_ := (Option.bind_some _ _).symm.trans H; rw [hy270]; with_reducible exact H2_) | (have H2_ := (Option.bind_some _ _).symm.trans H; with_reducible exact H2_) | with_reducible exact H | (rw [hy270]; exact H) | exact H
 have Ny270 := Aside0.mk hy270
 clear hy270
 have H' := Aside0.mk H
 clear H
 go_enter Try.func8, Try.ntmps8
 go_wp2_with (first | ((with_reducible refine gate_dst (N := 7) rfl ?_); refine Kd.R_make (Kd.int .i64) _ 3 rfl (N := 7) rfl 27 _ _ rfl (l0.length : Int) rfl rfl Try.underlying27 (.int .i64 0) 8 info3 rfl (by decide) (by omega) 0 (ok := fun _ => True) (okp := fun _ => True) rfl (fun _ hk => hk) trivial (odt) (Nat.le_trans (Nat.mul_le_mul_right _ (odt : (l0.length : Int).toNat ≤ 35184372088832)) (by omega)) (Below.refl _ _) (Nat.le_refl _) ?_; intro v271 w4 ho5 hb hg_ hnew_; clear hg_ hnew_; (first | rw [← Ny270.out] at ho5 | (simp only [Int.reduceToNat] at ho5; rw [← Ny270.out] at ho5)); have HO272 := Aside0.mk (Kd.R_lower ho5 (below_size hB)); replace HB := Aside0.mk (below_step hB hb); clear hb ho5))
 go_loopg [4] k (fun kq v4 w' => ∃ (x3_1 : List Int) (x4_1 : Int), v4 = .int .i64 x4_1 ∧ Aside0 (laws_toIntS.l0 kq l0 x3_1 x4_1 = some r) ∧ Aside0 (kq ≤ k) ∧ Aside0 (Kd.R (Kd.int .i64) 3 w' w.heap.size (fun _ => True) v271 x3_1) ∧ Aside0 (Below w.heap.size w w'))
 case atStart => exact ⟨(y270), (0), rG, H', ⟨Nat.le_refl _⟩, ⟨by (with_reducible repeat (first|apply rA|apply rN|apply rD)); exact HO272.out⟩, ⟨hB⟩⟩
 case round =>
  clear H'
  try clear c3; try clear c3b1; try clear c3b0; try clear c2; try clear c2b1; try clear c2b0
  obtain ⟨x3_1, x4_1, rfl, HA, HK1, HO_3, HB⟩ := hrel
  cases gk with
  | zero => exact absurd HA.out (by simp [laws_toIntS.l0])
  | succ k1 =>
   have H := HA.out
   clear HA
   simp only [laws_toIntS.l0] at H
   by_cases c6 : x4_1 < (l0.length : Int)
   ·rw [if_pos c6] at H
    have c6b0 : decide (x4_1 < (l0.length : Int)) = true := decide_eq_true c6
    clear c6
    obtain ⟨c7, H⟩ := if_som H
    have c7b0 : decide (0 ≤ x4_1) = true := decide_eq_true c7
    clear c7
    obtain ⟨c8, H⟩ := if_som H
    have c8b0 : decide (x4_1 < (x3_1.length : Int)) = true := decide_eq_true c8
    clear c8
    obtain ⟨y274, hy274⟩ : ∃ y_ : List Int, y_ = (x3_1.set (x4_1 : Int).toNat (rd l0 x4_1)) := ⟨_, rfl⟩
    replace H : (laws_toIntS.l0 k1 l0 y274 (wrap64 (x4_1 + 1))) = some r := by first | (rw [hy274]; with_reducible exact H) | (have H2_ := (Option.bind_some _ _).symm.trans H; rw [hy274]; with_reducible exact H2_) | (have H2_ := (Option.bind_some _ _).symm.trans H; with_reducible exact H2_) | with_reducible exact H | (rw [hy274]; exact H) | exact H
    have Ny274 := Aside0.mk hy274
    clear hy274
    have H' := Aside0.mk H
    clear H
    have p273 : 0 ≤ (x4_1 : Int) := odt
    have q273 : x4_1 < (l0.length : Int) := odt
    obtain ⟨ad273, e273, hx273_0⟩ := Kd.at_int HR0.out x4_1 p273 q273
    cases e273
    replace hx273_0 := pw_cell_below HB.out hx273_0
    replace p273 := eq_true p273
    replace q273 := eq_true q273
    have p9 : 0 ≤ (x4_1 : Int) := odt
    have q9 : (x4_1 : Int) < ((x3_1.length : Int) : Int) := odt
    obtain ⟨go9, co9, eo9, gb9, gl9, cl9, HG9⟩ := Kd.R_form HO_3.out (by omega)
    (first | cases eo9 | (injection eo9 with ea_ en_ ec_; (first | subst ea_ | (injection ea_ with ea_; subst ea_)); subst ec_; clear en_))
    have GB9 := Aside0.mk gb9
    have GG9 := Aside0.mk HG9
    clear gb9 gl9 HG9
    obtain ⟨hx9_0, hf9_0⟩ := Kd.R_celln 0 HO_3.out (x4_1 : Int) p9 q9
    replace p9 := eq_true p9
    replace q9 := eq_true q9
    have HP10 := Kd.R_putg HO_3.out (x4_1 : Int) (rd l0 x4_1)
    go_wp2_with (first | ((with_reducible refine gate_store (t := 3) (p := 20) rfl ?_); refine store_event (t := 3) (p := 20) (v := ?vo_w11) (w1 := (wr.setCell ⟨go9, (x4_1 : Int).toNat, none⟩ (.int .i64 (rd l0 x4_1)))) ?hg ?ho ?hn ?hr ?_; (case ho => rfl); (case hg => rfl); (case hn => rfl); (case hr => first | (go_simp; done) | (go_simp; rfl)); intro w11 hw; have hg : wr.grownBy w11 (some go9) := (by rw [hw]; exact HP10.2); have hp_ : Kd.R (Kd.int .i64) 3 w11 w.heap.size (fun _ => True) (.slice (some ⟨go9, 0, none⟩) x3_1.length co9) y274 := (by rw [hw, Ny274.out]; exact HP10.1); clear HP10; replace HO_3 := Aside0.mk (hp_); replace HB := Aside0.mk ((by rw [hw]; exact below_set (HB.out) GB9.out : Below w.heap.size w w11)); clear hg hw hp_))
    go_roundg k1
    case measure => have := HK1.out; omega
    case rel => exact ⟨(y274), (wrap64 (x4_1 + 1)), rG, H', ⟨by have := HK1.out; omega⟩, ⟨by (with_reducible repeat (first|apply rA|apply rN|apply rD)); exact HO_3.out⟩, ⟨hB⟩⟩
   ·rw [if_neg c6] at H
    have c6b0 : decide (x4_1 < (l0.length : Int)) = false := decide_eq_false c6
    clear c6
    obtain rfl := Option.some.inj H
    go_wp2
    go_ret
    exact ⟨_, rE, by (with_reducible repeat (first|apply rA|apply rN|apply rD)); exact HO_3.out, hB⟩
/-! ### deep: trees of the call's own, no two rows of which are one -/
theorem F34_mk (d : Kd S34) (w : World) (x : S34) {A4 : Option Addr} {c4 : Nat} (l4 : x.f4.length ≤ c4) (g4 : k69.C w A4 x.f4.length x.f4) {A5 : Option Addr} {c5 : Nat} (l5 : x.f5.length ≤ c5) (g5 : k71.C w A5 x.f5.length x.f5) {A6 : Option Addr} {c6 : Nat} (l6 : x.f6.length ≤ c6) (g6 : d.C w A6 x.f6.length x.f6) :
    (F34 d).K w x [.int .i64 x.f0, .string x.f1, .string x.f2, .string x.f3, .slice A4 x.f4.length c4, .slice A5 x.f5.length c5, .slice A6 x.f6.length c6, .string x.f7] :=
  ⟨[.int .i64 x.f0], [.string x.f1, .string x.f2, .string x.f3, .slice A4 x.f4.length c4, .slice A5 x.f5.length c5, .slice A6 x.f6.length c6, .string x.f7], rfl, rfl, ⟨[.string x.f1], [.string x.f2, .string x.f3, .slice A4 x.f4.length c4, .slice A5 x.f5.length c5, .slice A6 x.f6.length c6, .string x.f7], rfl, rfl, ⟨[.string x.f2], [.string x.f3, .slice A4 x.f4.length c4, .slice A5 x.f5.length c5, .slice A6 x.f6.length c6, .string x.f7], rfl, rfl, ⟨[.string x.f3], [.slice A4 x.f4.length c4, .slice A5 x.f5.length c5, .slice A6 x.f6.length c6, .string x.f7], rfl, rfl, ⟨[.slice A4 x.f4.length c4], [.slice A5 x.f5.length c5, .slice A6 x.f6.length c6, .string x.f7], rfl, ⟨A4, c4, rfl, l4, g4⟩, ⟨[.slice A5 x.f5.length c5], [.slice A6 x.f6.length c6, .string x.f7], rfl, ⟨A5, c5, rfl, l5, g5⟩, ⟨[.slice A6 x.f6.length c6], [.string x.f7], rfl, ⟨A6, c6, rfl, l6, g6⟩, rfl⟩⟩⟩⟩⟩⟩⟩
/-- A node whose rows are told apart: the blocks of what hangs below are in ok. -/
@[reducible] def DN (d : Kd S34) (w : World) (base : Nat) (ok : Nat → Prop) (x : S34) (v4 v5 v6 : Value) (o6 : Nat → Prop) : Prop :=
  k69.R 69 w base (fun k => some k = v4.ownBlock) v4 x.f4 ∧ k71.R 71 w base (fun k => some k = v5.ownBlock) v5 x.f5 ∧ Kd.S d 34 w base o6 v6 x.f6 ∧ (∀ k, some k = v4.ownBlock → ok k) ∧ (∀ k, some k = v5.ownBlock → ok k) ∧ (∀ k, o6 k → ok k ∧ some k ≠ v4.ownBlock ∧ some k ≠ v5.ownBlock)
def cN (x : S34) (v4 v5 v6 : Value) : List Value := [.int .i64 x.f0, .string x.f1, .string x.f2, .string x.f3, v4, v5, v6, .string x.f7]
def D34 (d : Kd S34) : Kd S34 where
  sz := 8
  E := 69 :: 71 :: 34 :: d.E
  K := (F34 d).K
  M := fun w base ok x cs => ∃ v4 v5 v6 o6, cs = cN x v4 v5 v6 ∧ DN d w base ok x v4 v5 v6 o6
  K_len := fun h => (F34 d).K_len h
  K_one := fun h => (F34 d).K_one h
  K_below := fun hb h => (F34 d).K_below hb h
  K_of_M := by
    rintro w base ok x cs ⟨v4, v5, v6, o6, rfl, h4, h5, h6, -⟩
    obtain ⟨A4, c4, rfl, l4, g4⟩ := Kd.R_reads h4
    obtain ⟨A5, c5, rfl, l5, g5⟩ := Kd.R_reads h5
    obtain ⟨A6, c6, rfl, l6, g6⟩ := Kd.S_reads h6
    exact F34_mk d w x l4 g4 l5 g5 l6 g6
  M_mono := by
    rintro w base ok ok' x cs hok ⟨v4, v5, v6, o6, rfl, h4, h5, h6, a4, a5, a6⟩
    exact ⟨v4, v5, v6, o6, rfl, h4, h5, h6, fun k hk => hok k (a4 k hk), fun k hk => hok k (a5 k hk), fun k hk => ⟨hok k (a6 k hk).1, (a6 k hk).2⟩⟩
  M_bound := by
    rintro w base ok x cs ⟨v4, v5, v6, o6, rfl, h4, h5, h6, a4, a5, a6⟩
    refine ⟨v4, v5, v6, _, rfl, h4, h5, Kd.S_bound h6, fun k hk => ?_, fun k hk => ?_, fun k hk => ?_⟩
    · obtain ⟨cells, hc⟩ := Kd.R_typed h4 k hk.symm
      exact ⟨a4 k hk, Kd.R_base h4 k hk.symm, Kd.R_lt h4 k hk.symm, 69, by simp, cells, hc⟩
    · obtain ⟨cells, hc⟩ := Kd.R_typed h5 k hk.symm
      exact ⟨a5 k hk, Kd.R_base h5 k hk.symm, Kd.R_lt h5 k hk.symm, 71, by simp, cells, hc⟩
    · obtain ⟨h1, h2, h3, q, hq, hc⟩ := hk
      exact ⟨⟨(a6 k h1).1, h2, h3, q, List.mem_cons_of_mem _ (List.mem_cons_of_mem _ hq), hc⟩, (a6 k h1).2⟩
  M_move := by
    rintro w w1 base ok x cs hm ⟨v4, v5, v6, o6, rfl, h4, h5, h6, a4, a5, a6⟩
    exact ⟨v4, v5, v6, o6, rfl, Kd.R_move h4 (fun k hk => hm k (a4 k hk)), Kd.R_move h5 (fun k hk => hm k (a5 k hk)), Kd.S_move h6 (fun k hk => hm k (a6 k hk).1), a4, a5, a6⟩
  M_lower := by
    rintro w base base' ok x cs hb ⟨v4, v5, v6, o6, rfl, h4, h5, h6, a4, a5, a6⟩
    exact ⟨v4, v5, v6, o6, rfl, Kd.R_lower h4 hb, Kd.R_lower h5 hb, Kd.S_lower h6 hb, a4, a5, a6⟩
theorem S_imp_ {α : Type} {d d' : Kd α} (hs : d.sz = d'.sz) (hM : ∀ w base ok x cs, d.M w base ok x cs → d'.M w base ok x cs) {e : Nat} {w : World} {base : Nat} {ok : Nat → Prop} {v : Value} {xs : List α} (h : Kd.S d e w base ok v xs) : Kd.S d' e w base ok v xs := by
  obtain ⟨f, h⟩ := h
  exact ⟨f, Kd.R_imp (d := Kd.tag f d) (d' := Kd.tag f d') hs (fun w base ok x cs hp => hM w base _ _ cs hp) h⟩
theorem monoD : Kd.Mono D34 := ⟨fun _ _ _ => rfl, fun d d' hs h w x cs hk => mono34.K d d' hs h w x cs hk, fun d d' hs h w base ok x cs ⟨v4, v5, v6, o6, e, h4, h5, h6, a⟩ => ⟨v4, v5, v6, o6, e, h4, h5, S_imp_ hs h h6, a⟩⟩
theorem subD : Kd.Sub D34 [34, 71, 69] := fun d h q hq => by
  rcases List.mem_cons.1 hq with rfl | hq
  · simp
  rcases List.mem_cons.1 hq with rfl | hq
  · simp
  rcases List.mem_cons.1 hq with rfl | hq
  · simp
  · exact h q hq
theorem szD : ∀ n, (Kd.upto D34 8 [34, 71, 69] n).sz = 8 := Kd.upto_sz (fun _ => rfl)
def kD : Kd S34 := Kd.fix D34 8 [34, 71, 69] szD (Kd.upto_E subD)
theorem kD_S {n : Nat} {w : World} {base : Nat} {ok : Nat → Prop} {v : Value} {xs : List S34} (h : Kd.S (Kd.upto D34 8 [34, 71, 69] n) 34 w base ok v xs) : Kd.S kD 34 w base ok v xs :=
  S_imp_ (d := Kd.upto D34 8 [34, 71, 69] n) (d' := kD) (szD n) (fun w base ok x cs h => (⟨n, h⟩ : ∃ n, (Kd.upto D34 8 [34, 71, 69] n).M w base ok x cs)) h
theorem kD_back {w : World} {base : Nat} {ok : Nat → Prop} {v : Value} {xs : List S34} (h : Kd.S kD 34 w base ok v xs) : ∃ n, Kd.S (Kd.upto D34 8 [34, 71, 69] n) 34 w base ok v xs := by
  obtain ⟨f, h0, inner, ho, hr⟩ := h
  obtain ⟨N, hN⟩ := Kd.reps_bounded (R := fun n (p : S34 × Nat) c => (Kd.upto D34 8 [34, 71, 69] n).M w base (fun k => (ok k ∧ some k ≠ v.ownBlock) ∧ f k = p.2) p.1 c) (fun n m p c hnm hp => Kd.upto_M_le monoD szD hnm hp) hr
  refine ⟨N, f, h0, inner, ?_, ?_⟩
  · show World.ownsRow w base 34 (Kd.upto D34 8 [34, 71, 69] N).sz v _ inner
    rw [szD N]; exact ho
  · show Reps _ (Kd.upto D34 8 [34, 71, 69] N).sz _ inner
    rw [szD N]; exact hN
theorem kD_open {w : World} {base : Nat} {ok : Nat → Prop} {x : S34} {cs : List Value} (h : kD.M w base ok x cs) : ∃ v4 v5 v6 o6, cs = cN x v4 v5 v6 ∧ DN kD w base ok x v4 v5 v6 o6 := by
  obtain ⟨n, h⟩ := h
  cases n with
  | zero => exact h.elim
  | succ n =>
    obtain ⟨v4, v5, v6, o6, rfl, h4, h5, h6, a⟩ := h
    exact ⟨v4, v5, v6, o6, rfl, h4, h5, kD_S h6, a⟩
theorem kD_mk {w : World} {base : Nat} {ok : Nat → Prop} {x : S34} {v4 v5 v6 : Value} {o6 : Nat → Prop} (h : DN kD w base ok x v4 v5 v6 o6) : kD.M w base ok x (cN x v4 v5 v6) := by
  obtain ⟨h4, h5, h6, a⟩ := h
  obtain ⟨n, h6⟩ := kD_back h6
  exact ⟨n + 1, v4, v5, v6, o6, rfl, h4, h5, h6, a⟩
theorem upto_KD {E : List Nat} : ∀ n {w : World} {x : S34} {cs : List Value}, (Kd.upto D34 8 [34, 71, 69] n).K w x cs → (Kd.upto F34 8 E n).K w x cs
  | 0, _, _, _, h => h.elim
  | n + 1, _, _, _, h => mono34.K _ _ (by rw [szD n, Kd.upto_sz (F := F34) (fun _ => rfl) n]) (fun _ _ _ hk => upto_KD n hk) _ _ _ h
theorem upto_MD : ∀ n {w : World} {base : Nat} {ok : Nat → Prop} {x : S34} {cs : List Value}, (Kd.upto D34 8 [34, 71, 69] n).M w base ok x cs → k34.M w base ok x cs
  | 0, _, _, _, _, _, h => h.elim
  | n + 1, w, base, ok, x, _, ⟨v4, v5, v6, o6, e, h4, h5, h6, a4, a5, a6⟩ => by
    subst e
    exact k34_mkM _ _ _ x (Kd.R_mono h4 (fun k hk => a4 k hk)) (Kd.R_mono h5 (fun k hk => a5 k hk)) (Kd.R_mono (Kd.R_imp (d := Kd.upto D34 8 [34, 71, 69] n) (d' := k34) (szD n) (fun w base ok x cs hp => upto_MD n hp) (Kd.S_R h6)) (fun k hk => (a6 k hk).1))
theorem kD_K {w : World} {x : S34} {cs : List Value} (h : kD.K w x cs) : k34.K w x cs := by
  obtain ⟨n, h⟩ := h
  exact ⟨n, upto_KD n h⟩
theorem kD_C {w : World} {A : Option Addr} {n : Nat} {xs : List S34} (h : kD.C w A n xs) : k34.C w A n xs := Kd.C_imp (d := kD) (d' := k34) rfl (fun _ _ _ hp => kD_K hp) h
theorem kD_R {w : World} {base : Nat} {ok : Nat → Prop} {v : Value} {xs : List S34} (h : Kd.S kD 34 w base ok v xs) : ∃ A c, v = .slice A xs.length c ∧ xs.length ≤ c ∧ k34.C w A xs.length xs := by
  obtain ⟨A, c, e, l, g⟩ := Kd.S_reads h
  exact ⟨A, c, e, l, kD_C g⟩
theorem kD_toR {w : World} {base : Nat} {ok : Nat → Prop} {v : Value} {xs : List S34} (h : Kd.S kD 34 w base ok v xs) : k34.R 34 w base ok v xs :=
  Kd.R_imp (d := kD) (d' := k34) rfl (fun _ _ _ _ _ ⟨n, hp⟩ => upto_MD n hp) (Kd.S_R h)
/-! #### an element of such a row, lent -/
section
variable {W W1 : World} {base g n cap : Nat} {ok oki P : Nat → Prop} {ys zs : List S34} {x : S34} {v4 v5 v6 : Value} {o6 : Nat → Prop}
theorem setA (ys zs : List S34) (x x' : S34) : (ys ++ x :: zs).set ((ys.length : Int)).toNat x' = ys ++ x' :: zs := by simp
theorem kD_elem (h : Kd.S kD 34 W base ok (.slice (some ⟨g, 0, none⟩) n cap) (ys ++ x :: zs)) :
    ∃ oki v4 v5 v6 o6, (∀ j u, (cN x v4 v5 v6)[j]? = some u → W.cell? ⟨g, ys.length * 8 + j, none⟩ = some u) ∧ (∀ j, W.frozen? ⟨g, ys.length * 8 + j, none⟩ = false) ∧ DN kD W base oki x v4 v5 v6 o6 ∧ (∀ k, oki k → ok k ∧ k ≠ g) ∧ Kd.H kD 34 W base ok (.slice (some ⟨g, 0, none⟩) n cap) (ys ++ x :: zs) (ys.length : Int) oki (cN x v4 v5 v6) := by
  have hn := (Kd.S_reads' h).1
  rw [List.length_append, List.length_cons] at hn
  obtain ⟨oki, c, _, hM, hc, hf, hk, hH⟩ := Kd.S_elem h z34 (ys.length : Int) (by omega) (by omega)
  rw [Int.toNat_natCast, show (ys ++ x :: zs).getD ys.length z34 = x by simp [List.getD]] at hM
  obtain ⟨v4, v5, v6, o6, rfl, hD⟩ := kD_open hM
  exact ⟨oki, v4, v5, v6, o6, hc, hf, hD, hk, hH⟩
theorem kD_in4 (hH : Kd.H kD 34 W base ok (.slice (some ⟨g, 0, none⟩) n cap) (ys ++ x :: zs) (ys.length : Int) oki (cN x v4 v5 v6)) (hD : DN kD W base oki x v4 v5 v6 o6) (hk : Kept W W1 (fun k => some k = v4.ownBlock)) {d : List S69} (hR : k69.R 69 W1 base P v4 d) :
    Kd.S kD 34 W1 base ok (.slice (some ⟨g, 0, none⟩) n cap) (ys ++ ⟨x.f0, x.f1, x.f2, x.f3, d, x.f5, x.f6, x.f7⟩ :: zs) := by
  obtain ⟨h4, h5, h6, a4, a5, a6⟩ := hD
  rw [← setA ys zs x]
  refine Kd.H_back (okp := oki) (Kd.H_kept hH hk (fun k _ hn he => hn (a4 k he))) (kD_mk (x := ⟨x.f0, x.f1, x.f2, x.f3, d, x.f5, x.f6, x.f7⟩) ⟨Kd.R_tight rfl hR, Kd.R_kept h5 hk (fun k h1 h2 => ?_), Kd.S_kept h6 hk (fun k h1 => (a6 k h1).2.1), a4, a5, a6⟩) (fun _ hk => hk)
  obtain ⟨c1, e1⟩ := Kd.R_typed h4 k h2.symm
  obtain ⟨c2, e2⟩ := Kd.R_typed h5 k h1.symm
  rw [e1] at e2
  cases e2
theorem kD_in5 (hH : Kd.H kD 34 W base ok (.slice (some ⟨g, 0, none⟩) n cap) (ys ++ x :: zs) (ys.length : Int) oki (cN x v4 v5 v6)) (hD : DN kD W base oki x v4 v5 v6 o6) (hk : Kept W W1 (fun k => some k = v5.ownBlock)) {d : List S71} (hR : k71.R 71 W1 base P v5 d) :
    Kd.S kD 34 W1 base ok (.slice (some ⟨g, 0, none⟩) n cap) (ys ++ ⟨x.f0, x.f1, x.f2, x.f3, x.f4, d, x.f6, x.f7⟩ :: zs) := by
  obtain ⟨h4, h5, h6, a4, a5, a6⟩ := hD
  rw [← setA ys zs x]
  refine Kd.H_back (okp := oki) (Kd.H_kept hH hk (fun k _ hn he => hn (a5 k he))) (kD_mk (x := ⟨x.f0, x.f1, x.f2, x.f3, x.f4, d, x.f6, x.f7⟩) ⟨Kd.R_kept h4 hk (fun k h1 h2 => ?_), Kd.R_tight rfl hR, Kd.S_kept h6 hk (fun k h1 => (a6 k h1).2.2), a4, a5, a6⟩) (fun _ hk => hk)
  obtain ⟨c1, e1⟩ := Kd.R_typed h4 k h1.symm
  obtain ⟨c2, e2⟩ := Kd.R_typed h5 k h2.symm
  rw [e1] at e2
  cases e2
theorem kD_in6 (hH : Kd.H kD 34 W base ok (.slice (some ⟨g, 0, none⟩) n cap) (ys ++ x :: zs) (ys.length : Int) oki (cN x v4 v5 v6)) (hD : DN kD W base oki x v4 v5 v6 o6) (hk : Kept W W1 o6) {d : List S34} (hR : Kd.S kD 34 W1 base o6 v6 d) :
    Kd.S kD 34 W1 base ok (.slice (some ⟨g, 0, none⟩) n cap) (ys ++ ⟨x.f0, x.f1, x.f2, x.f3, x.f4, x.f5, d, x.f7⟩ :: zs) := by
  obtain ⟨h4, h5, h6, a4, a5, a6⟩ := hD
  rw [← setA ys zs x]
  exact Kd.H_back (okp := oki) (Kd.H_kept hH hk (fun k _ hn he => hn (a6 k he).1)) (kD_mk (x := ⟨x.f0, x.f1, x.f2, x.f3, x.f4, x.f5, d, x.f7⟩) ⟨Kd.R_kept h4 hk (fun k h1 h2 => (a6 k h2).2.1 h1), Kd.R_kept h5 hk (fun k h1 h2 => (a6 k h2).2.2 h1), hR, a4, a5, a6⟩) (fun _ hk => hk)
theorem kD_put (hH : Kd.H kD 34 W base ok (.slice (some ⟨g, 0, none⟩) n cap) (ys ++ x :: zs) (ys.length : Int) oki (cN x v4 v5 v6)) (hD : DN kD W base oki x v4 v5 v6 o6) (hk : ∀ k, oki k → ok k ∧ k ≠ g) (hl : ys.length < n) (j : Nat) (u : Value) (hu : u.oneCell' = true) (hj : j + 1 ≤ 8)
    (x' : S34) (hx : (cN x v4 v5 v6).take j ++ [u] ++ (cN x v4 v5 v6).drop (j + 1) = cN x' v4 v5 v6) (h4 : x'.f4 = x.f4) (h5 : x'.f5 = x.f5) (h6 : x'.f6 = x.f6) :
    Kd.S kD 34 (W.setCell ⟨g, ys.length * 8 + j, none⟩ u) base ok (.slice (some ⟨g, 0, none⟩) n cap) (ys ++ x' :: zs) ∧ W.grownBy (W.setCell ⟨g, ys.length * 8 + j, none⟩ u) (some g) := by
  obtain ⟨h1, h2⟩ := Kd.H_seg hH (by omega) (by omega) (seg := [u]) (j := j) hj (fun q hq => by rw [List.mem_singleton.1 hq]; exact hu)
  rw [show ((ys.length : Int)).toNat = ys.length from Int.toNat_natCast _] at h1 h2
  have hM : kD.M W base oki x' (cN x' v4 v5 v6) := kD_mk (by unfold DN at hD ⊢; rw [h4, h5, h6]; exact hD)
  refine ⟨?_, h2⟩
  have h3 := Kd.H_back h1 (x' := x') (okp := oki) (by rw [show [u].length = 1 from rfl, hx]; exact Kd.M_step hM (fun k hk2 hlt => h2.block k hlt (fun he => (hk k hk2).2 (by injection he)))) (fun _ h => h)
  rw [setA] at h3
  exact h3
end
theorem kD_zero (W : World) (base : Nat) (ok : Nat → Prop) : kD.M W base ok z34 [.int .i64 0, .string ⟨#[]⟩, .string ⟨#[]⟩, .string ⟨#[]⟩, .slice none 0 0, .slice none 0 0, .slice none 0 0, .string ⟨#[]⟩] :=
  kD_mk (x := z34) (v4 := .slice none 0 0) (v5 := .slice none 0 0) (v6 := .slice none 0 0) (o6 := fun _ => False) ⟨Kd.R_nil _ _ _ _ _, Kd.R_nil _ _ _ _ _, Kd.S_nil _ _ _ _ _, fun k hk => by simp [Value.ownBlock] at hk, fun k hk => by simp [Value.ownBlock] at hk, fun k hk => hk.elim⟩
theorem kD_put8 {W : World} {base N g n cap : Nat} {xs : List S34} (h : Kd.S kD 34 W base (fun k => k < N) (.slice (some ⟨g, 0, none⟩) n cap) xs) (hb : base ≤ N) (i : Int) (h0 : 0 ≤ i) (h1 : i < n) (x : S34) {v4 v5 v6 : Value} (h4 : k69.R 69 W N (fun _ => True) v4 x.f4) (h5 : k71.R 71 W N (fun _ => True) v5 x.f5) (h6 : Kd.S kD 34 W N (fun k => some k ≠ v4.ownBlock ∧ some k ≠ v5.ownBlock) v6 x.f6) :
    Kd.S kD 34 (W.setCells g (i.toNat * 8 + 0) [.int .i64 x.f0, .string x.f1, .string x.f2, .string x.f3, v4, v5, v6, .string x.f7]) base (fun _ => True) (.slice (some ⟨g, 0, none⟩) n cap) (xs.set i.toNat x) ∧ W.grownBy (W.setCells g (i.toNat * 8 + 0) [.int .i64 x.f0, .string x.f1, .string x.f2, .string x.f3, v4, v5, v6, .string x.f7]) (some g) := by
  have hgN : g < N := (Kd.S_R h).1 g rfl
  obtain ⟨oki, c, hcl, _, _, _, _, hH⟩ := Kd.S_elem (Kd.S_mono h (ok' := fun k => True ∧ ¬ N ≤ k) (fun k hk => ⟨trivial, by omega⟩)) z34 i h0 h1
  have hM : kD.M W base (fun k => N ≤ k) x (cN x v4 v5 v6) := kD_mk (o6 := fun k => (some k ≠ v4.ownBlock ∧ some k ≠ v5.ownBlock) ∧ N ≤ k)
    ⟨Kd.R_lower (Kd.R_tight rfl h4) hb, Kd.R_lower (Kd.R_tight rfl h5) hb, Kd.S_lower (Kd.S_mono (Kd.S_bound h6) (fun k hk => ⟨hk.1, hk.2.1⟩)) hb, fun k hk => Kd.R_base h4 k hk.symm, fun k hk => Kd.R_base h5 k hk.symm, fun k hk => ⟨hk.2, hk.1⟩⟩
  have hc8 : c.drop 8 = [] := List.drop_eq_nil_of_le (by rw [hcl]; exact Nat.le_refl _)
  refine Kd.S_seg (okg := fun k => N ≤ k) (ok := fun _ => True) hH h0 h1 (seg := [.int .i64 x.f0, .string x.f1, .string x.f2, .string x.f3, v4, v5, v6, .string x.f7]) (j := 0) (by show 8 ≤ 8; omega) (okp := fun k => N ≤ k) (x' := x) ?_ (fun k hk => .inr hk) (fun k hk => ⟨trivial, by omega⟩)
  show kD.M W base _ x (c.take 0 ++ _ ++ c.drop 8)
  rw [hc8, List.take_zero, List.nil_append, List.append_nil]
  exact hM
/-- A tree told at W2, later: nothing below its end has been written since. -/
theorem DN_later {W2 W : World} {base N : Nat} {x : S34} {v4 v5 v6 : Value} (hb : base ≤ N) (h4 : k69.R 69 W2 N (fun _ => True) v4 x.f4) (h5 : k71.R 71 W2 N (fun _ => True) v5 x.f5) (h6 : Kd.S kD 34 W2 N (fun k => some k ≠ v4.ownBlock ∧ some k ≠ v5.ownBlock) v6 x.f6) (hB : Below W2.heap.size W2 W) :
    DN kD W base (fun k => N ≤ k ∧ k < W2.heap.size) x v4 v5 v6 (fun k => (some k ≠ v4.ownBlock ∧ some k ≠ v5.ownBlock) ∧ N ≤ k ∧ k < W2.heap.size) :=
  ⟨Kd.R_lower (Kd.R_below (Kd.R_tight rfl h4) hB) hb, Kd.R_lower (Kd.R_below (Kd.R_tight rfl h5) hB) hb, Kd.S_lower (Kd.S_below (Kd.S_mono (Kd.S_bound h6) (fun k hk => ⟨hk.1, hk.2.1, hk.2.2.1⟩)) hB) hb,
    fun k hk => ⟨Kd.R_base h4 k hk.symm, Kd.R_lt h4 k hk.symm⟩, fun k hk => ⟨Kd.R_base h5 k hk.symm, Kd.R_lt h5 k hk.symm⟩, fun k hk => ⟨hk.2, hk.1⟩⟩
theorem R_keptOwn {α : Type} {d : Kd α} {e : Nat} {W W2 : World} {base : Nat} {ok S : Nat → Prop} {v : Value} {xs : List α} (h : d.R e W base ok v xs) (hE : d.E = []) (hk : Kept W W2 S) (hne : ∀ k, some k = v.ownBlock → ¬ S k) : d.R e W2 base ok v xs :=
  Kd.R_mono (Kd.R_kept (Kd.R_tight hE h) hk hne) (fun k hk => h.1 k hk.symm)
theorem kD_elemM {W : World} {base N : Nat} (hb : base ≤ N) (x : S34) {v4 v5 v6 : Value} (h4 : k69.R 69 W N (fun _ => True) v4 x.f4) (h5 : k71.R 71 W N (fun _ => True) v5 x.f5) (h6 : Kd.S kD 34 W N (fun k => some k ≠ v4.ownBlock ∧ some k ≠ v5.ownBlock) v6 x.f6) : kD.M W base (fun k => N ≤ k) x (cN x v4 v5 v6) :=
  kD_mk (o6 := fun k => (some k ≠ v4.ownBlock ∧ some k ≠ v5.ownBlock) ∧ N ≤ k)
    ⟨Kd.R_lower (Kd.R_tight rfl h4) hb, Kd.R_lower (Kd.R_tight rfl h5) hb, Kd.S_lower (Kd.S_mono (Kd.S_bound h6) (fun k hk => ⟨hk.1, hk.2.1⟩)) hb, fun k hk => Kd.R_base h4 k hk.symm, fun k hk => Kd.R_base h5 k hk.symm, fun k hk => ⟨hk.2, hk.1⟩⟩
theorem kD_seg7 {W : World} {base g n cap : Nat} {ok : Nat → Prop} {xs : List S34} (h : Kd.S kD 34 W base ok (.slice (some ⟨g, 0, none⟩) n cap) xs) (i : Int) (h0 : 0 ≤ i) (h1 : i < n) (s : ByteArray) :
    Kd.S kD 34 (W.setCells g (i.toNat * 8 + 7) [.string s]) base ok (.slice (some ⟨g, 0, none⟩) n cap) (xs.set i.toNat (⟨(rd_T34 xs i).f0, (rd_T34 xs i).f1, (rd_T34 xs i).f2, (rd_T34 xs i).f3, (rd_T34 xs i).f4, (rd_T34 xs i).f5, (rd_T34 xs i).f6, s⟩ : S34)) := by
  obtain ⟨oki, c, _, hM, hc, hf, hk, hH⟩ := Kd.S_elem h z34 i h0 h1
  obtain ⟨v4, v5, v6, o6, rfl, hD⟩ := kD_open hM
  obtain ⟨h2, h3⟩ := Kd.H_seg hH h0 h1 (seg := [.string s]) (j := 7) (by show 8 ≤ 8; omega) (fun q hq => by rw [List.mem_singleton.1 hq]; rfl)
  have hM2 : kD.M W base oki (⟨(rd_T34 xs i).f0, (rd_T34 xs i).f1, (rd_T34 xs i).f2, (rd_T34 xs i).f3, (rd_T34 xs i).f4, (rd_T34 xs i).f5, (rd_T34 xs i).f6, s⟩ : S34) (cN (⟨(rd_T34 xs i).f0, (rd_T34 xs i).f1, (rd_T34 xs i).f2, (rd_T34 xs i).f3, (rd_T34 xs i).f4, (rd_T34 xs i).f5, (rd_T34 xs i).f6, s⟩ : S34) v4 v5 v6) := kD_mk hD
  exact Kd.H_back h2 (okp := oki) (Kd.M_step hM2 (fun k hk2 hlt => h3.block k hlt (fun he => (hk k hk2).2 (by injection he)))) (fun _ h => h)
/-! ### laws_toNode: function 7 -/
def laws_toNode.F (G_ : List (S26) → Option ((List (S34)))) (k : Nat) (a0_0 : Int) (a0_1 : ByteArray) (a0_2 : ByteArray) (a0_3 : ByteArray) (l0_4 : List (S64)) (l0_5 : List (S67)) (l0_6 : List (S26)) (a0_7 : ByteArray) : Option (Int × ByteArray × ByteArray × ByteArray × (List (S69)) × (List (S71)) × (List (S34)) × ByteArray) := (laws_toDeclS.f k l0_4).bind fun t261 => ((laws_toAttrS.f k l0_5).bind fun t264 => ((G_ l0_6).bind fun t267 => (some (a0_0, a0_1, a0_2, a0_3, t261, t264, t267, a0_7))))
theorem laws_toNode.monoF {G_ G2_ : List (S26) → Option ((List (S34)))} (hG_ : ∀ y0_, LeO (G_ y0_) (G2_ y0_)) : ∀ a0 a1 a2 a3 a4 a5 a6 a7 k, LeO (laws_toNode.F G_ k a0 a1 a2 a3 a4 a5 a6 a7) (laws_toNode.F G2_ (k + 1) a0 a1 a2 a3 a4 a5 a6 a7) := by
 intro a0 a1 a2 a3 a4 a5 a6 a7 k
 unfold laws_toNode.F
 repeat' first
   | (with_reducible exact laws_toAttrS.mono _ _)
   | (with_reducible exact laws_toDeclS.mono _ _)
   | (with_reducible exact hG_ _)
   | (with_reducible exact LeO.refl _)
   | (with_reducible exact LeO.none _)
   | (with_reducible refine LeO.ite ?_ ?_)
   | (with_reducible refine LeO.bind ?_ (fun _ => ?_))
   | exact laws_toAttrS.mono _ _
   | exact laws_toDeclS.mono _ _
   | exact hG_ _
   | exact LeO.none _
   | refine LeO.ite ?_ ?_
   | refine LeO.bind ?_ (fun _ => ?_)
theorem laws_toNode.callsF (G_ : List (S26) → Option ((List (S34)))) (hG_ : ∀ (A0 : Option Addr) (c0 : Nat) (l0 : List (S26)) (r : List (S34)) (w : World) (hr0 : Kd.C k26 w A0 l0.length l0) (hc0 : l0.length ≤ c0) (h : G_ l0 = some r), Calls Try.prog 9 #[.slice A0 l0.length c0] w fun e w' => ∃ v0_ : Value, e = .returned (v0_) ∧ Kd.S kD 34 w' w.heap.size (fun _ => True) v0_ r ∧ Below w.heap.size w w') (k : Nat) (a0_0 : Int) (a0_1 : ByteArray) (a0_2 : ByteArray) (a0_3 : ByteArray) (A0_4 : Option Addr) (c0_4 : Nat) (l0_4 : List (S64)) (A0_5 : Option Addr) (c0_5 : Nat) (l0_5 : List (S67)) (A0_6 : Option Addr) (c0_6 : Nat) (l0_6 : List (S26)) (a0_7 : ByteArray) (r1 : Int) (r2 : ByteArray) (r3 : ByteArray) (r4 : ByteArray) (r5 : List (S69)) (r6 : List (S71)) (r7 : List (S34)) (r8 : ByteArray) (w : World) (hr0_4 : Kd.C k64 w A0_4 l0_4.length l0_4) (hc0_4 : l0_4.length ≤ c0_4) (hr0_5 : Kd.C k67 w A0_5 l0_5.length l0_5) (hc0_5 : l0_5.length ≤ c0_5) (hr0_6 : Kd.C k26 w A0_6 l0_6.length l0_6) (hc0_6 : l0_6.length ≤ c0_6) (h : laws_toNode.F G_ k a0_0 a0_1 a0_2 a0_3 l0_4 l0_5 l0_6 a0_7 = some (r1, r2, r3, r4, r5, r6, r7, r8)) :
  Calls Try.prog 7 #[.agg #[.int .i64 a0_0, .string a0_1, .string a0_2, .string a0_3, .slice A0_4 l0_4.length c0_4, .slice A0_5 l0_5.length c0_5, .slice A0_6 l0_6.length c0_6, .string a0_7]] w fun e w' => ∃ v4_ v5_ v6_ : Value, e = .returned (.agg #[.int .i64 r1, .string r2, .string r3, .string r4, v4_, v5_, v6_, .string r8]) ∧ Kd.R k69 69 w' w.heap.size (fun _ => True) v4_ r5 ∧ Kd.R k71 71 w' w.heap.size (fun _ => True) v5_ r6 ∧ Kd.S kD 34 w' w.heap.size (fun k_ => some k_ ≠ (v4_ : Value).ownBlock ∧ some k_ ≠ (v5_ : Value).ownBlock) v6_ r7 ∧ Below w.heap.size w w' := by
 have hu26 := Try.underlying26
 have hu34 := Try.underlying34
 have HR0_4 := Aside0.mk hr0_4
 have HC0_4 := Aside0.mk hc0_4
 clear hr0_4 hc0_4
 have HR0_5 := Aside0.mk hr0_5
 have HC0_5 := Aside0.mk hc0_5
 clear hr0_5 hc0_5
 have HR0_6 := Aside0.mk hr0_6
 have HC0_6 := Aside0.mk hc0_6
 clear hr0_6 hc0_6
 have HB := Aside0.mk (Below.refl w.heap.size w)
 have H : ((laws_toDeclS.f k l0_4).bind fun t261 => ((laws_toAttrS.f k l0_5).bind fun t264 => ((G_ l0_6).bind fun t267 => (some (a0_0, a0_1, a0_2, a0_3, t261, t264, t267, a0_7))))) = some (r1, r2, r3, r4, r5, r6, r7, r8) := h
 clear h
 replace H := Option.bind_eq_some_iff.mp H
 obtain ⟨t261, A20, H⟩ := H
 try dsimp only at H
 have A2 := Aside0.mk A20
 clear A20
 replace H := Option.bind_eq_some_iff.mp H
 obtain ⟨t264, A30, H⟩ := H
 try dsimp only at H
 have A3 := Aside0.mk A30
 clear A30
 replace H := Option.bind_eq_some_iff.mp H
 obtain ⟨t267, A40, H⟩ := H
 try dsimp only at H
 have A4 := Aside0.mk A40
 clear A40
 simp only [Option.some.injEq, Prod.mk.injEq] at H
 obtain ⟨rfl, rfl, rfl, rfl, rfl, rfl, rfl, rfl⟩ := H
 go_enter Try.func7, Try.ntmps7
 go_wp2_with (first | ((with_reducible refine gate_dst (N := 1) rfl ?_); refine box_event ?hg (N := 1) ?hd (cs := #[.int .i64 a0_0, .string a0_1, .string a0_2, .string a0_3, .slice A0_4 l0_4.length c0_4, .slice A0_5 l0_5.length c0_5, .slice A0_6 l0_6.length c0_6, .string a0_7]) (t := 26) ?hr ?_; (case hd => rfl); (case hg => rfl); (case hr => first | (go_simp; done) | (go_simp; rfl)); intro gb258 hg w5 hbox hb; have BK258 := Aside0.mk (hbox); have GW258 := Aside0.mk ((by rw [hg]; exact (below_size hB) : w.heap.size ≤ gb258)); have GE258 := Aside0.mk ((by rw [hg]; exact (below_size hB) : w.heap.size ≤ gb258)); replace HB := Aside0.mk (below_step hB hb); clear hb hbox hg) | ((with_reducible refine gate_dst (N := 2) rfl ?_); refine box_event ?hg (N := 2) ?hd (cs := #[.int .i64 0, .string (⟨#[]⟩ : ByteArray), .string (⟨#[]⟩ : ByteArray), .string (⟨#[]⟩ : ByteArray), .slice none 0 0, .slice none 0 0, .slice none 0 0, .string (⟨#[]⟩ : ByteArray)]) (t := 34) ?hr ?_; (case hd => rfl); (case hg => rfl); (case hr => first | (go_simp; done) | (go_simp; rfl)); intro gb259 hg w6 hbox hb; have BK259 := Aside0.mk (hbox); have GW259 := Aside0.mk ((by rw [hg]; exact (below_size hB) : w.heap.size ≤ gb259)); have GE259 := Aside0.mk ((by rw [hg]; exact (below_size hB) : w.heap.size ≤ gb259)); replace HB := Aside0.mk (below_step hB hb); have NB258_259 := Aside0.mk ((by rw [hg]; exact Nat.ne_of_lt (blk_lt (g := gb258) (by (with_reducible repeat (first | refine bN ?_ _|refine bD ?_|refine bA ?_ _)); exact BK258.out)) : gb258 ≠ gb259)); have NB259_258 := Aside0.mk ((by rw [hg]; exact Nat.ne_of_gt (blk_lt (g := gb258) (by (with_reducible repeat (first | refine bN ?_ _|refine bD ?_|refine bA ?_ _)); exact BK258.out)) : gb259 ≠ gb258)); replace BK258 := Aside0.mk (blk_below (g := gb258) (by (with_reducible repeat (first | refine bN ?_ _|refine bD ?_|refine bA ?_ _)); exact BK258.out) hb); clear hb hbox hg) | ((with_reducible refine gate_dst (N := 3) rfl ?_); refine box_event ?hg (N := 3) ?hd (cs := #[.int .i64 0, .string (⟨#[]⟩ : ByteArray), .string (⟨#[]⟩ : ByteArray), .string (⟨#[]⟩ : ByteArray), .slice none 0 0, .slice none 0 0, .slice none 0 0, .string (⟨#[]⟩ : ByteArray)]) (t := 34) ?hr ?_; (case hd => rfl); (case hg => rfl); (case hr => first | (go_simp; done) | (go_simp; rfl)); intro gb260 hg w7 hbox hb; have BK260 := Aside0.mk (hbox); have GW260 := Aside0.mk ((by rw [hg]; exact (below_size hB) : w.heap.size ≤ gb260)); have GE260 := Aside0.mk ((by rw [hg]; exact (below_size hB) : w.heap.size ≤ gb260)); replace HB := Aside0.mk (below_step hB hb); have NB258_260 := Aside0.mk ((by rw [hg]; exact Nat.ne_of_lt (blk_lt (g := gb258) (by (with_reducible repeat (first | refine bN ?_ _|refine bD ?_|refine bA ?_ _)); exact BK258.out)) : gb258 ≠ gb260)); have NB260_258 := Aside0.mk ((by rw [hg]; exact Nat.ne_of_gt (blk_lt (g := gb258) (by (with_reducible repeat (first | refine bN ?_ _|refine bD ?_|refine bA ?_ _)); exact BK258.out)) : gb260 ≠ gb258)); replace BK258 := Aside0.mk (blk_below (g := gb258) (by (with_reducible repeat (first | refine bN ?_ _|refine bD ?_|refine bA ?_ _)); exact BK258.out) hb); have NB259_260 := Aside0.mk ((by rw [hg]; exact Nat.ne_of_lt (blk_lt (g := gb259) (by (with_reducible repeat (first | refine bN ?_ _|refine bD ?_|refine bA ?_ _)); exact BK259.out)) : gb259 ≠ gb260)); have NB260_259 := Aside0.mk ((by rw [hg]; exact Nat.ne_of_gt (blk_lt (g := gb259) (by (with_reducible repeat (first | refine bN ?_ _|refine bD ?_|refine bA ?_ _)); exact BK259.out)) : gb260 ≠ gb259)); replace BK259 := Aside0.mk (blk_below (g := gb259) (by (with_reducible repeat (first | refine bN ?_ _|refine bD ?_|refine bA ?_ _)); exact BK259.out) hb); clear hb hbox hg; have hnb8 := NB258_259.out; have hnc8 := NB259_258.out; have hnb9 := NB258_260.out; have hnc9 := NB260_258.out; obtain ⟨hcz10_0, hcz10_1, hcz10_2, hcz10_3, hcz10_4, hcz10_5, hcz10_6, hcz10_7⟩ := bc8 BK258.out; obtain ⟨hfz10_0, hfz10_1, hfz10_2, hfz10_3, hfz10_4, hfz10_5, hfz10_6, hfz10_7⟩ := bf8 BK258.out; have hnb11 := NB260_259.out; have hnc11 := NB259_260.out; obtain ⟨hcz12_0, hcz12_1, hcz12_2, hcz12_3, hcz12_4, hcz12_5, hcz12_6, hcz12_7⟩ := bc8 BK260.out; obtain ⟨hfz12_0, hfz12_1, hfz12_2, hfz12_3, hfz12_4, hfz12_5, hfz12_6, hfz12_7⟩ := bf8 BK260.out) | ((with_reducible refine gate_callee (f := 24) rfl ?_); refine goesL_ (some 18) rfl rfl Try.func24 (by kernel_rfl) rfl #[.slice A0_4 l0_4.length c0_4] rfl mA ?_; (with_reducible refine (laws_toDeclS.calls k _ _ l0_4 t261 _ ?side1 ?side2 A2.out).mono ?_); (case side1 => exact Kd.C_below HR0_4.out hB); (case side2 => exact HC0_4.out); rintro e w13 ⟨v262, rfl, ho0, hb⟩; refine ⟨_, rfl, ?_⟩; have HO263 := Aside0.mk (Kd.R_lower ho0 (below_size hB)); replace BK258 := Aside0.mk (blk_below (g := gb258) (o := .cells #[.int .i64 a0_0, .string a0_1, .string a0_2, .string a0_3, .slice A0_4 l0_4.length c0_4, .slice A0_5 l0_5.length c0_5, .slice A0_6 l0_6.length c0_6, .string a0_7] 26 (0, 0)) (by (with_reducible repeat (first | refine bN ?_ _|refine bD ?_|refine bA ?_ _)); refine blk_far ?_ NB258_260.out _; (with_reducible repeat (first | refine bN ?_ _|refine bD ?_|refine bA ?_ _)); refine blk_far ?_ NB258_260.out _; (with_reducible repeat (first | refine bN ?_ _|refine bD ?_|refine bA ?_ _)); refine blk_far ?_ NB258_260.out _; (with_reducible repeat (first | refine bN ?_ _|refine bD ?_|refine bA ?_ _)); refine blk_far ?_ NB258_260.out _; (with_reducible repeat (first | refine bN ?_ _|refine bD ?_|refine bA ?_ _)); exact BK258.out) hb); replace BK259 := Aside0.mk (blk_below (g := gb259) (o := .cells #[.int .i64 0, .string (⟨#[]⟩ : ByteArray), .string (⟨#[]⟩ : ByteArray), .string (⟨#[]⟩ : ByteArray), .slice none 0 0, .slice none 0 0, .slice none 0 0, .string (⟨#[]⟩ : ByteArray)] 34 (0, 0)) (by (with_reducible repeat (first | refine bN ?_ _|refine bD ?_|refine bA ?_ _)); refine blk_far ?_ NB259_260.out _; (with_reducible repeat (first | refine bN ?_ _|refine bD ?_|refine bA ?_ _)); refine blk_far ?_ NB259_260.out _; (with_reducible repeat (first | refine bN ?_ _|refine bD ?_|refine bA ?_ _)); refine blk_far ?_ NB259_260.out _; (with_reducible repeat (first | refine bN ?_ _|refine bD ?_|refine bA ?_ _)); refine blk_far ?_ NB259_260.out _; (with_reducible repeat (first | refine bN ?_ _|refine bD ?_|refine bA ?_ _)); exact BK259.out) hb); replace BK260 := Aside0.mk (blk_below (g := gb260) (o := .cells #[.int .i64 a0_0, .string a0_1, .string a0_2, .string a0_3, .slice none 0 0, .slice none 0 0, .slice none 0 0, .string (⟨#[]⟩ : ByteArray)] 34 (0, 0)) (by (with_reducible repeat (first | refine bN ?_ _|refine bD ?_|refine bA ?_ _)); refine blk_put (cs := #[.int .i64 a0_0, .string a0_1, .string a0_2, .string (⟨#[]⟩ : ByteArray), .slice none 0 0, .slice none 0 0, .slice none 0 0, .string (⟨#[]⟩ : ByteArray)]) ?_ 3 _ rfl; (with_reducible repeat (first | refine bN ?_ _|refine bD ?_|refine bA ?_ _)); refine blk_put (cs := #[.int .i64 a0_0, .string a0_1, .string (⟨#[]⟩ : ByteArray), .string (⟨#[]⟩ : ByteArray), .slice none 0 0, .slice none 0 0, .slice none 0 0, .string (⟨#[]⟩ : ByteArray)]) ?_ 2 _ rfl; (with_reducible repeat (first | refine bN ?_ _|refine bD ?_|refine bA ?_ _)); refine blk_put (cs := #[.int .i64 a0_0, .string (⟨#[]⟩ : ByteArray), .string (⟨#[]⟩ : ByteArray), .string (⟨#[]⟩ : ByteArray), .slice none 0 0, .slice none 0 0, .slice none 0 0, .string (⟨#[]⟩ : ByteArray)]) ?_ 1 _ rfl; (with_reducible repeat (first | refine bN ?_ _|refine bD ?_|refine bA ?_ _)); refine blk_put (cs := #[.int .i64 0, .string (⟨#[]⟩ : ByteArray), .string (⟨#[]⟩ : ByteArray), .string (⟨#[]⟩ : ByteArray), .slice none 0 0, .slice none 0 0, .slice none 0 0, .string (⟨#[]⟩ : ByteArray)]) ?_ 0 _ rfl; (with_reducible repeat (first | refine bN ?_ _|refine bD ?_|refine bA ?_ _)); exact BK260.out) hb); replace HB := Aside0.mk (below_step hB hb); (try clear hb); (try clear hb2); (try clear hk); (try clear hi); (try clear ho0); obtain ⟨Ao14, co14, eo14⟩ := Kd.R_slice HO263.out; subst eo14; obtain ⟨hcz15_0, hcz15_1, hcz15_2, hcz15_3, hcz15_4, hcz15_5, hcz15_6, hcz15_7⟩ := bc8 BK260.out; obtain ⟨hfz15_0, hfz15_1, hfz15_2, hfz15_3, hfz15_4, hfz15_5, hfz15_6, hfz15_7⟩ := bf8 BK260.out; obtain ⟨hcz16_0, hcz16_1, hcz16_2, hcz16_3, hcz16_4, hcz16_5, hcz16_6, hcz16_7⟩ := bc8 BK258.out; obtain ⟨hfz16_0, hfz16_1, hfz16_2, hfz16_3, hfz16_4, hfz16_5, hfz16_6, hfz16_7⟩ := bf8 BK258.out) | ((with_reducible refine gate_callee (f := 25) rfl ?_); refine goesL_ (some 22) rfl rfl Try.func25 (by kernel_rfl) rfl #[.slice A0_5 l0_5.length c0_5] rfl mA ?_; (with_reducible refine (laws_toAttrS.calls k _ _ l0_5 t264 _ ?side1 ?side2 A3.out).mono ?_); (case side1 => exact Kd.C_below HR0_5.out hB); (case side2 => exact HC0_5.out); rintro e w17 ⟨v265, rfl, ho0, hb⟩; refine ⟨_, rfl, ?_⟩; replace HO263 := Aside0.mk (Kd.R_below (by (with_reducible repeat (first|apply rA|apply rN|apply rD|apply Kd.S_alloc|apply Kd.S_drewN|apply Kd.S_drew)); exact (Kd.R_mono (Kd.R_far (p := ⟨gb260, 4, none⟩) (Kd.R_types HO263.out BK260.out (by decide)) (fun _ hk => hk.2) (.slice Ao14 t261.length co14)) (fun _ h_ => h_.1))) hb); have HO266 := Aside0.mk (Kd.R_lower ho0 (below_size hB)); replace BK258 := Aside0.mk (blk_below (g := gb258) (o := .cells #[.int .i64 a0_0, .string a0_1, .string a0_2, .string a0_3, .slice A0_4 l0_4.length c0_4, .slice A0_5 l0_5.length c0_5, .slice A0_6 l0_6.length c0_6, .string a0_7] 26 (0, 0)) (by (with_reducible repeat (first | refine bN ?_ _|refine bD ?_|refine bA ?_ _)); refine blk_far ?_ NB258_260.out _; (with_reducible repeat (first | refine bN ?_ _|refine bD ?_|refine bA ?_ _)); exact BK258.out) hb); replace BK259 := Aside0.mk (blk_below (g := gb259) (o := .cells #[.int .i64 0, .string (⟨#[]⟩ : ByteArray), .string (⟨#[]⟩ : ByteArray), .string (⟨#[]⟩ : ByteArray), .slice none 0 0, .slice none 0 0, .slice none 0 0, .string (⟨#[]⟩ : ByteArray)] 34 (0, 0)) (by (with_reducible repeat (first | refine bN ?_ _|refine bD ?_|refine bA ?_ _)); refine blk_far ?_ NB259_260.out _; (with_reducible repeat (first | refine bN ?_ _|refine bD ?_|refine bA ?_ _)); exact BK259.out) hb); replace BK260 := Aside0.mk (blk_below (g := gb260) (o := .cells #[.int .i64 a0_0, .string a0_1, .string a0_2, .string a0_3, .slice Ao14 t261.length co14, .slice none 0 0, .slice none 0 0, .string (⟨#[]⟩ : ByteArray)] 34 (0, 0)) (by (with_reducible repeat (first | refine bN ?_ _|refine bD ?_|refine bA ?_ _)); refine blk_put (cs := #[.int .i64 a0_0, .string a0_1, .string a0_2, .string a0_3, .slice none 0 0, .slice none 0 0, .slice none 0 0, .string (⟨#[]⟩ : ByteArray)]) ?_ 4 _ rfl; (with_reducible repeat (first | refine bN ?_ _|refine bD ?_|refine bA ?_ _)); exact BK260.out) hb); replace HB := Aside0.mk (below_step hB hb); (try clear hb); (try clear hb2); (try clear hk); (try clear hi); (try clear ho0); obtain ⟨Ao18, co18, eo18⟩ := Kd.R_slice HO266.out; subst eo18; obtain ⟨hcz19_0, hcz19_1, hcz19_2, hcz19_3, hcz19_4, hcz19_5, hcz19_6, hcz19_7⟩ := bc8 BK260.out; obtain ⟨hfz19_0, hfz19_1, hfz19_2, hfz19_3, hfz19_4, hfz19_5, hfz19_6, hfz19_7⟩ := bf8 BK260.out; obtain ⟨hcz20_0, hcz20_1, hcz20_2, hcz20_3, hcz20_4, hcz20_5, hcz20_6, hcz20_7⟩ := bc8 BK258.out; obtain ⟨hfz20_0, hfz20_1, hfz20_2, hfz20_3, hfz20_4, hfz20_5, hfz20_6, hfz20_7⟩ := bf8 BK258.out) | ((with_reducible refine gate_callee (f := 9) rfl ?_); refine goesL_ (some 26) rfl rfl Try.func9 (by kernel_rfl) rfl #[.slice A0_6 l0_6.length c0_6] rfl mA ?_; (with_reducible refine (hG_ _ _ l0_6 t267 _ ?side1 ?side2 A4.out).mono ?_); (case side1 => exact Kd.C_below HR0_6.out hB); (case side2 => exact HC0_6.out); rintro e w21 ⟨v268, rfl, ho0, hb⟩; refine ⟨_, rfl, ?_⟩; have HO269 := Aside0.mk (Kd.S_lower (Kd.S_newB (Kd.S_newB (Kd.S_new' (Kd.S_new' ho0 (Kd.R_lt (by (with_reducible repeat (first|apply rA|apply rN|apply rD|apply Kd.S_alloc|apply Kd.S_drewN|apply Kd.S_drew)); exact (Kd.R_mono (Kd.R_far (p := ⟨gb260, 5, none⟩) (Kd.R_types HO263.out BK260.out (by decide)) (fun _ hk => hk.2) (.slice Ao18 t264.length co18)) (fun _ h_ => h_.1))))) (Kd.R_lt (by (with_reducible repeat (first|apply rA|apply rN|apply rD|apply Kd.S_alloc|apply Kd.S_drewN|apply Kd.S_drew)); exact (Kd.R_mono (Kd.R_far (p := ⟨gb260, 5, none⟩) (Kd.R_types HO266.out BK260.out (by decide)) (fun _ hk => hk.2) (.slice Ao18 t264.length co18)) (fun _ h_ => h_.1))))) (g := gb259) (o := .cells #[.int .i64 0, .string (⟨#[]⟩ : ByteArray), .string (⟨#[]⟩ : ByteArray), .string (⟨#[]⟩ : ByteArray), .slice none 0 0, .slice none 0 0, .slice none 0 0, .string (⟨#[]⟩ : ByteArray)] 34 (0, 0)) (by (with_reducible repeat (first | refine bN ?_ _|refine bD ?_|refine bA ?_ _)); refine blk_far ?_ NB259_260.out _; (with_reducible repeat (first | refine bN ?_ _|refine bD ?_|refine bA ?_ _)); exact BK259.out)) (g := gb260) (o := .cells #[.int .i64 a0_0, .string a0_1, .string a0_2, .string a0_3, .slice Ao14 t261.length co14, .slice Ao18 t264.length co18, .slice none 0 0, .string (⟨#[]⟩ : ByteArray)] 34 (0, 0)) (by (with_reducible repeat (first | refine bN ?_ _|refine bD ?_|refine bA ?_ _)); refine blk_put (cs := #[.int .i64 a0_0, .string a0_1, .string a0_2, .string a0_3, .slice Ao14 t261.length co14, .slice none 0 0, .slice none 0 0, .string (⟨#[]⟩ : ByteArray)]) ?_ 5 _ rfl; (with_reducible repeat (first | refine bN ?_ _|refine bD ?_|refine bA ?_ _)); exact BK260.out)) (below_size hB)); replace HO263 := Aside0.mk (Kd.R_below (by (with_reducible repeat (first|apply rA|apply rN|apply rD|apply Kd.S_alloc|apply Kd.S_drewN|apply Kd.S_drew)); exact (Kd.R_mono (Kd.R_far (p := ⟨gb260, 5, none⟩) (Kd.R_types HO263.out BK260.out (by decide)) (fun _ hk => hk.2) (.slice Ao18 t264.length co18)) (fun _ h_ => h_.1))) hb); replace HO266 := Aside0.mk (Kd.R_below (by (with_reducible repeat (first|apply rA|apply rN|apply rD|apply Kd.S_alloc|apply Kd.S_drewN|apply Kd.S_drew)); exact (Kd.R_mono (Kd.R_far (p := ⟨gb260, 5, none⟩) (Kd.R_types HO266.out BK260.out (by decide)) (fun _ hk => hk.2) (.slice Ao18 t264.length co18)) (fun _ h_ => h_.1))) hb); replace BK258 := Aside0.mk (blk_below (g := gb258) (o := .cells #[.int .i64 a0_0, .string a0_1, .string a0_2, .string a0_3, .slice A0_4 l0_4.length c0_4, .slice A0_5 l0_5.length c0_5, .slice A0_6 l0_6.length c0_6, .string a0_7] 26 (0, 0)) (by (with_reducible repeat (first | refine bN ?_ _|refine bD ?_|refine bA ?_ _)); refine blk_far ?_ NB258_260.out _; (with_reducible repeat (first | refine bN ?_ _|refine bD ?_|refine bA ?_ _)); exact BK258.out) hb); replace BK259 := Aside0.mk (blk_below (g := gb259) (o := .cells #[.int .i64 0, .string (⟨#[]⟩ : ByteArray), .string (⟨#[]⟩ : ByteArray), .string (⟨#[]⟩ : ByteArray), .slice none 0 0, .slice none 0 0, .slice none 0 0, .string (⟨#[]⟩ : ByteArray)] 34 (0, 0)) (by (with_reducible repeat (first | refine bN ?_ _|refine bD ?_|refine bA ?_ _)); refine blk_far ?_ NB259_260.out _; (with_reducible repeat (first | refine bN ?_ _|refine bD ?_|refine bA ?_ _)); exact BK259.out) hb); replace BK260 := Aside0.mk (blk_below (g := gb260) (o := .cells #[.int .i64 a0_0, .string a0_1, .string a0_2, .string a0_3, .slice Ao14 t261.length co14, .slice Ao18 t264.length co18, .slice none 0 0, .string (⟨#[]⟩ : ByteArray)] 34 (0, 0)) (by (with_reducible repeat (first | refine bN ?_ _|refine bD ?_|refine bA ?_ _)); refine blk_put (cs := #[.int .i64 a0_0, .string a0_1, .string a0_2, .string a0_3, .slice Ao14 t261.length co14, .slice none 0 0, .slice none 0 0, .string (⟨#[]⟩ : ByteArray)]) ?_ 5 _ rfl; (with_reducible repeat (first | refine bN ?_ _|refine bD ?_|refine bA ?_ _)); exact BK260.out) hb); replace HB := Aside0.mk (below_step hB hb); (try clear hb); (try clear hb2); (try clear hk); (try clear hi); (try clear ho0); obtain ⟨Ao22, co22, eo22⟩ := Kd.S_slice HO269.out; subst eo22; obtain ⟨hcz23_0, hcz23_1, hcz23_2, hcz23_3, hcz23_4, hcz23_5, hcz23_6, hcz23_7⟩ := bc8 BK260.out; obtain ⟨hfz23_0, hfz23_1, hfz23_2, hfz23_3, hfz23_4, hfz23_5, hfz23_6, hfz23_7⟩ := bf8 BK260.out; obtain ⟨hcz24_0, hcz24_1, hcz24_2, hcz24_3, hcz24_4, hcz24_5, hcz24_6, hcz24_7⟩ := bc8 BK258.out; obtain ⟨hfz24_0, hfz24_1, hfz24_2, hfz24_3, hfz24_4, hfz24_5, hfz24_6, hfz24_7⟩ := bf8 BK258.out; obtain ⟨hcz25_0, hcz25_1, hcz25_2, hcz25_3, hcz25_4, hcz25_5, hcz25_6, hcz25_7⟩ := bc8 BK259.out; obtain ⟨hfz25_0, hfz25_1, hfz25_2, hfz25_3, hfz25_4, hfz25_5, hfz25_6, hfz25_7⟩ := bf8 BK259.out))
 refine bodyPost_ret (results_cell_row rfl _ _ gb259 34 #[.int .i64 a0_0, .string a0_1, .string a0_2, .string a0_3, .slice Ao14 t261.length co14, .slice Ao18 t264.length co18, .slice Ao22 t267.length co22, .string a0_7] (0, 0) _ rfl (by (with_reducible repeat (first | refine bN ?_ _|refine bD ?_|refine bA ?_ _)); exact put8 (by (with_reducible repeat (first | refine bN ?_ _|refine bD ?_|refine bA ?_ _)); refine blk_far ?_ NB259_260.out _; (with_reducible repeat (first | refine bN ?_ _|refine bD ?_|refine bA ?_ _)); refine blk_far ?_ NB259_260.out _; (with_reducible repeat (first | refine bN ?_ _|refine bD ?_|refine bA ?_ _)); exact BK259.out)) Try.underlying34 rfl (by kernel_rfl)) rfl ?_
 exact ⟨_, _, _, rE, by (with_reducible repeat (first|apply rA|apply rN|apply rD|apply Kd.S_alloc|apply Kd.S_drewN|apply Kd.S_drew)); exact Kd.R_mono (Kd.R_far (p := ⟨gb259, 7, none⟩) (Kd.R_far (p := ⟨gb259, 6, none⟩) (Kd.R_far (p := ⟨gb259, 5, none⟩) (Kd.R_far (p := ⟨gb259, 4, none⟩) (Kd.R_far (p := ⟨gb259, 3, none⟩) (Kd.R_far (p := ⟨gb259, 2, none⟩) (Kd.R_far (p := ⟨gb259, 1, none⟩) (Kd.R_far (p := ⟨gb259, 0, none⟩) (Kd.R_far (p := ⟨gb260, 7, none⟩) (Kd.R_far (p := ⟨gb260, 6, none⟩) (Kd.R_types (Kd.R_types HO263.out BK260.out (by decide)) BK259.out (by decide)) (fun _ hk => hk.1.2) (.slice Ao22 t267.length co22)) (fun _ hk => hk.1.2) (.string a0_7)) (fun _ hk => hk.2) (.int .i64 a0_0)) (fun _ hk => hk.2) (.string a0_1)) (fun _ hk => hk.2) (.string a0_2)) (fun _ hk => hk.2) (.string a0_3)) (fun _ hk => hk.2) (.slice Ao14 t261.length co14)) (fun _ hk => hk.2) (.slice Ao18 t264.length co18)) (fun _ hk => hk.2) (.slice Ao22 t267.length co22)) (fun _ hk => hk.2) (.string a0_7)) (fun _ hk => trivial), by (with_reducible repeat (first|apply rA|apply rN|apply rD|apply Kd.S_alloc|apply Kd.S_drewN|apply Kd.S_drew)); exact Kd.R_mono (Kd.R_far (p := ⟨gb259, 7, none⟩) (Kd.R_far (p := ⟨gb259, 6, none⟩) (Kd.R_far (p := ⟨gb259, 5, none⟩) (Kd.R_far (p := ⟨gb259, 4, none⟩) (Kd.R_far (p := ⟨gb259, 3, none⟩) (Kd.R_far (p := ⟨gb259, 2, none⟩) (Kd.R_far (p := ⟨gb259, 1, none⟩) (Kd.R_far (p := ⟨gb259, 0, none⟩) (Kd.R_far (p := ⟨gb260, 7, none⟩) (Kd.R_far (p := ⟨gb260, 6, none⟩) (Kd.R_types (Kd.R_types HO266.out BK260.out (by decide)) BK259.out (by decide)) (fun _ hk => hk.1.2) (.slice Ao22 t267.length co22)) (fun _ hk => hk.1.2) (.string a0_7)) (fun _ hk => hk.2) (.int .i64 a0_0)) (fun _ hk => hk.2) (.string a0_1)) (fun _ hk => hk.2) (.string a0_2)) (fun _ hk => hk.2) (.string a0_3)) (fun _ hk => hk.2) (.slice Ao14 t261.length co14)) (fun _ hk => hk.2) (.slice Ao18 t264.length co18)) (fun _ hk => hk.2) (.slice Ao22 t267.length co22)) (fun _ hk => hk.2) (.string a0_7)) (fun _ hk => trivial), by (with_reducible repeat (first|apply rA|apply rN|apply rD|apply Kd.S_alloc|apply Kd.S_drewN|apply Kd.S_drew)); exact Kd.S_mono (Kd.S_far (p := ⟨gb259, 7, none⟩) (Kd.S_far (p := ⟨gb259, 6, none⟩) (Kd.S_far (p := ⟨gb259, 5, none⟩) (Kd.S_far (p := ⟨gb259, 4, none⟩) (Kd.S_far (p := ⟨gb259, 3, none⟩) (Kd.S_far (p := ⟨gb259, 2, none⟩) (Kd.S_far (p := ⟨gb259, 1, none⟩) (Kd.S_far (p := ⟨gb259, 0, none⟩) (Kd.S_far (p := ⟨gb260, 7, none⟩) (Kd.S_far (p := ⟨gb260, 6, none⟩) (Kd.S_mono (Kd.S_mono HO269.out (fun k_ hk => (⟨hk, hk.2⟩ : _ ∧ k_ ≠ gb260))) (fun k_ hk => (⟨hk, hk.1.1.2⟩ : _ ∧ k_ ≠ gb259))) (fun _ hk => hk.1.2) (.slice Ao22 t267.length co22)) (fun _ hk => hk.1.2) (.string a0_7)) (fun _ hk => hk.2) (.int .i64 a0_0)) (fun _ hk => hk.2) (.string a0_1)) (fun _ hk => hk.2) (.string a0_2)) (fun _ hk => hk.2) (.string a0_3)) (fun _ hk => hk.2) (.slice Ao14 t261.length co14)) (fun _ hk => hk.2) (.slice Ao18 t264.length co18)) (fun _ hk => hk.2) (.slice Ao22 t267.length co22)) (fun _ hk => hk.2) (.string a0_7)) (fun _ hk => ⟨hk.1.1.1.1.1.2, hk.1.1.1.1.2⟩), hB⟩
/-! ### laws_toNodeS: function 9 -/
mutual
def laws_toNodeS.l0 : Nat → List (S26) → List (S34) → Int → Option ((List (S34)))
 | 0, _, _, _ => none
 | k + 1, x0, x3, x4 => if x4 < (x0.length : Int) then (if 0 ≤ x4 then ((laws_toNode.F (fun y0_ => laws_toNodeS.f k y0_) k ((rd_T26 x0 x4).f0) ((rd_T26 x0 x4).f1) ((rd_T26 x0 x4).f2) ((rd_T26 x0 x4).f3) ((rd_T26 x0 x4).f4) ((rd_T26 x0 x4).f5) ((rd_T26 x0 x4).f6) ((rd_T26 x0 x4).f7)).bind fun bt279 => (if x4 < (x3.length : Int) then (laws_toNodeS.l0 k x0 (x3.set (x4 : Int).toNat (⟨bt279.1, bt279.2.1, bt279.2.2.1, bt279.2.2.2.1, bt279.2.2.2.2.1, bt279.2.2.2.2.2.1, bt279.2.2.2.2.2.2.1, bt279.2.2.2.2.2.2.2⟩ : S34)) (wrap64 (x4 + 1))) else (none))) else (none)) else (some x3)
def laws_toNodeS.f : Nat → List (S26) → Option ((List (S34)))
 | 0, _ => none
 | k + 1, l0 => if 0 ≤ (l0.length : Int) then (if ((l0.length : Int) : Int).toNat ≤ 1954687338268 then (laws_toNodeS.l0 k l0 (List.replicate ((l0.length : Int) : Int).toNat z34) 0) else (none)) else (none)
end
theorem laws_toNodeS.callsD (k : Nat) : ∀ (A0 : Option Addr) (c0 : Nat) (l0 : List (S26)) (r : List (S34)) (w : World) (hr0 : Kd.C k26 w A0 l0.length l0) (hc0 : l0.length ≤ c0) (h : laws_toNodeS.f k l0 = some r),
  Calls Try.prog 9 #[.slice A0 l0.length c0] w fun e w' => ∃ v0_ : Value, e = .returned (v0_) ∧ Kd.S kD 34 w' w.heap.size (fun _ => True) v0_ r ∧ Below w.heap.size w w' := by
 induction k using Nat.strongRecOn with
 | _ k ih =>
 intro A0 c0 l0 r w hr0 hc0 h
 cases k with
 | zero => exact absurd h (by simp [laws_toNodeS.f])
 | succ k =>
 simp only [laws_toNodeS.f] at h
 have hu26 := Try.underlying26
 have hu34 := Try.underlying34
 have HR0 := Aside0.mk hr0
 have HC0 := Aside0.mk hc0
 clear hr0 hc0
 have HB := Aside0.mk (Below.refl w.heap.size w)
 have H : (if 0 ≤ (l0.length : Int) then (if ((l0.length : Int) : Int).toNat ≤ 1954687338268 then (laws_toNodeS.l0 k l0 (List.replicate ((l0.length : Int) : Int).toNat z34) 0) else (none)) else (none)) = some r := h
 clear h
 obtain ⟨c2, H⟩ := if_som H
 obtain ⟨c2b0, c2b1⟩ := fcT c2
 clear c2
 obtain ⟨c3, H⟩ := if_som H
 obtain ⟨c3b0, c3b1⟩ := fcT c3
 clear c3
 obtain ⟨y275, hy275⟩ : ∃ y_ : List (S34), y_ = (List.replicate ((l0.length : Int) : Int).toNat z34) := ⟨_, rfl⟩
 replace H : (laws_toNodeS.l0 k l0 y275 0) = some r := by first | (rw [hy275]; with_reducible exact H) | (have H2_ := (Option.bind_some _ _).symm.trans H; rw [hy275]; with_reducible exact H2_) | (have H2_ := (Option.bind_some _ _).symm.trans H; with_reducible exact H2_) | with_reducible exact H | (rw [hy275]; exact H) | exact H
 have Ny275 := Aside0.mk hy275
 clear hy275
 have H' := Aside0.mk H
 clear H
 go_enter Try.func9, Try.ntmps9
 go_wp2_with (first | ((with_reducible refine gate_dst (N := 7) rfl ?_); refine Kd.S_make kD _ 34 rfl (N := 7) rfl 32 _ _ rfl (l0.length : Int) rfl rfl Try.underlying32 (.agg #[(.int .i64 0), (.string ⟨#[]⟩), (.string ⟨#[]⟩), (.string ⟨#[]⟩), (.slice none 0 0), (.slice none 0 0), (.slice none 0 0), (.string ⟨#[]⟩)]) 144 info34 rfl (by decide) (by omega) z34 (ok := fun _ => True) (okp := fun _ => True) (kD_zero _ _ _) (fun _ hk => hk) trivial (odt) (Nat.le_trans (Nat.mul_le_mul_right _ (odt : (l0.length : Int).toNat ≤ 1954687338268)) (by omega)) (Below.refl _ _) (Nat.le_refl _) ?_; intro v276 w4 ho5 hb hg_ hnew_; clear hg_ hnew_; (first | rw [← Ny275.out] at ho5 | (simp only [Int.reduceToNat] at ho5; rw [← Ny275.out] at ho5)); have HO277 := Aside0.mk (Kd.S_lower ho5 (below_size hB)); replace HB := Aside0.mk (below_step hB hb); clear hb ho5))
 go_loopg [4] k (fun kq v4 w' => ∃ (x3_1 : List (S34)) (x4_1 : Int), v4 = .int .i64 x4_1 ∧ Aside0 (laws_toNodeS.l0 kq l0 x3_1 x4_1 = some r) ∧ Aside0 (kq ≤ k) ∧ Aside0 (Kd.S kD 34 w' w.heap.size (fun _ => True) v276 x3_1) ∧ Aside0 (Below w.heap.size w w'))
 case atStart => exact ⟨(y275), (0), rG, H', ⟨Nat.le_refl _⟩, ⟨by (with_reducible repeat (first|apply rA|apply rN|apply rD|apply Kd.S_alloc|apply Kd.S_drewN|apply Kd.S_drew)); exact HO277.out⟩, ⟨hB⟩⟩
 case round =>
  clear H'
  try clear c3; try clear c3b1; try clear c3b0; try clear c2; try clear c2b1; try clear c2b0
  obtain ⟨x3_1, x4_1, rfl, HA, HK1, HO_3, HB⟩ := hrel
  cases gk with
  | zero => exact absurd HA.out (by simp [laws_toNodeS.l0])
  | succ k1 =>
   have H := HA.out
   clear HA
   simp only [laws_toNodeS.l0] at H
   by_cases c6 : x4_1 < (l0.length : Int)
   ·rw [if_pos c6] at H
    have c6b0 : decide (x4_1 < (l0.length : Int)) = true := decide_eq_true c6
    clear c6
    obtain ⟨c7, H⟩ := if_som H
    have c7b0 : decide (0 ≤ x4_1) = true := decide_eq_true c7
    clear c7
    replace H := Option.bind_eq_some_iff.mp H
    obtain ⟨⟨t279, t280, t281, t282, t283, t286, t289, t292⟩, A80, H⟩ := H
    try dsimp only at H
    have A8 := Aside0.mk A80
    clear A80
    have p278 : 0 ≤ (x4_1 : Int) := odt
    have q278 : x4_1 < (l0.length : Int) := odt
    obtain ⟨ad278, A278_4, c278_4, A278_5, c278_5, A278_6, c278_6, e278, hx278_0, hx278_1, hx278_2, hx278_3, hx278_4, hx278_5, hx278_6, hx278_7, hl278_4, hi278_4, hl278_5, hi278_5, hl278_6, hi278_6⟩ := at_T26 HR0.out x4_1 p278 q278
    cases e278
    replace hx278_0 := pw_cell_below HB.out hx278_0
    replace hx278_1 := pw_cell_below HB.out hx278_1
    replace hx278_2 := pw_cell_below HB.out hx278_2
    replace hx278_3 := pw_cell_below HB.out hx278_3
    replace hx278_4 := pw_cell_below HB.out hx278_4
    replace hx278_5 := pw_cell_below HB.out hx278_5
    replace hx278_6 := pw_cell_below HB.out hx278_6
    replace hx278_7 := pw_cell_below HB.out hx278_7
    have HR278_4 := Aside0.mk hi278_4
    have HC278_4 := Aside0.mk hl278_4
    clear hi278_4 hl278_4
    have HR278_5 := Aside0.mk hi278_5
    have HC278_5 := Aside0.mk hl278_5
    clear hi278_5 hl278_5
    have HR278_6 := Aside0.mk hi278_6
    have HC278_6 := Aside0.mk hl278_6
    clear hi278_6 hl278_6
    replace p278 := eq_true p278
    replace q278 := eq_true q278
    go_wp2_with (first | ((with_reducible refine gate_callee (f := 7) rfl ?_); refine goesL_ (some 20) rfl rfl Try.func7 (by kernel_rfl) rfl #[.agg #[.int .i64 ((rd_T26 l0 x4_1).f0), .string ((rd_T26 l0 x4_1).f1), .string ((rd_T26 l0 x4_1).f2), .string ((rd_T26 l0 x4_1).f3), .slice A278_4 ((rd_T26 l0 x4_1).f4).length c278_4, .slice A278_5 ((rd_T26 l0 x4_1).f5).length c278_5, .slice A278_6 ((rd_T26 l0 x4_1).f6).length c278_6, .string ((rd_T26 l0 x4_1).f7)]] rfl mA ?_; (with_reducible refine (laws_toNode.callsF (laws_toNodeS.f k1) (ih k1 (by first | omega | (have := HK1.out; omega))) k1 ((rd_T26 l0 x4_1).f0) ((rd_T26 l0 x4_1).f1) ((rd_T26 l0 x4_1).f2) ((rd_T26 l0 x4_1).f3) _ _ ((rd_T26 l0 x4_1).f4) _ _ ((rd_T26 l0 x4_1).f5) _ _ ((rd_T26 l0 x4_1).f6) ((rd_T26 l0 x4_1).f7) t279 t280 t281 t282 t283 t286 t289 t292 _ ?side1 ?side2 ?side3 ?side4 ?side5 ?side6 A8.out).mono ?_); (case side1 => repeat (first | exact (Kd.C_below HR278_4.out HB.out) | (with_reducible refine Kd.C_alloc ?_ _) | (with_reducible refine Kd.C_drewN ?_ _) | (with_reducible refine Kd.C_drew ?_))); (case side2 => exact HC278_4.out); (case side3 => repeat (first | exact (Kd.C_below HR278_5.out HB.out) | (with_reducible refine Kd.C_alloc ?_ _) | (with_reducible refine Kd.C_drewN ?_ _) | (with_reducible refine Kd.C_drew ?_))); (case side4 => exact HC278_5.out); (case side5 => repeat (first | exact (Kd.C_below HR278_6.out HB.out) | (with_reducible refine Kd.C_alloc ?_ _) | (with_reducible refine Kd.C_drewN ?_ _) | (with_reducible refine Kd.C_drew ?_))); (case side6 => exact HC278_6.out); rintro e w9 ⟨v284, v287, v290, rfl, ho0, ho1, ho2, hb⟩; refine ⟨_, rfl, ?_⟩; obtain ⟨N_, hNb, hN0, hN1, hN2, hN3⟩ : ∃ N : Nat, w.heap.size ≤ N ∧ Kd.R k69 69 w9 N (fun _ => True) v284 t283 ∧ Kd.R k71 71 w9 N (fun _ => True) v287 t286 ∧ Kd.S kD 34 w9 N (fun k_ => some k_ ≠ (v284 : Value).ownBlock ∧ some k_ ≠ (v287 : Value).ownBlock) v290 t289 ∧ Kd.S kD 34 w9 w.heap.size (fun k_ => k_ < N) v276 x3_1 := ⟨_, below_size hB, ho0, ho1, ho2, Kd.S_mono (Kd.S_old (by (with_reducible repeat (first|apply rA|apply rN|apply rD|apply Kd.S_alloc|apply Kd.S_drewN|apply Kd.S_drew)); exact HO_3.out) hb) (fun _ h_ => h_.2)⟩; have HN_ := Aside0.mk (And.intro hNb (And.intro hN0 (And.intro hN1 (And.intro hN2 hN3)))); clear hNb hN0 hN1 hN2 hN3; have HO285 := Aside0.mk (Kd.R_lower ho0 (below_size hB)); have HO288 := Aside0.mk (Kd.R_lower ho1 (below_size hB)); have HO291 := Aside0.mk (Kd.S_lower (Kd.S_new' ho2 (Kd.S_lt (by (with_reducible repeat (first|apply rA|apply rN|apply rD|apply Kd.S_alloc|apply Kd.S_drewN|apply Kd.S_drew)); exact HO_3.out))) (below_size hB)); replace HO_3 := Aside0.mk (Kd.S_mono (Kd.S_told (Kd.S_told (Kd.S_told (Kd.S_old (by (with_reducible repeat (first|apply rA|apply rN|apply rD|apply Kd.S_alloc|apply Kd.S_drewN|apply Kd.S_drew)); exact HO_3.out) hb) (Kd.R_base ho0)) (Kd.R_base ho1)) (Kd.S_base ho2)) (fun _ h_ => h_.1)); replace HB := Aside0.mk (below_step hB hb); (try clear hb); (try clear hb2); (try clear hk); (try clear hi); (try clear ho0); (try clear ho1); (try clear ho2); refine halt_ ?_; intro q_ hq_))
    obtain ⟨rfl⟩ := hq_
    obtain ⟨c10, H⟩ := if_som H
    have c10b0 : decide (x4_1 < (x3_1.length : Int)) = true := decide_eq_true c10
    clear c10
    obtain ⟨y293, hy293⟩ : ∃ y_ : List (S34), y_ = (x3_1.set (x4_1 : Int).toNat (⟨t279, t280, t281, t282, t283, t286, t289, t292⟩ : S34)) := ⟨_, rfl⟩
    replace H : (laws_toNodeS.l0 k1 l0 y293 (wrap64 (x4_1 + 1))) = some r := by first | (rw [hy293]; with_reducible exact H) | (have H2_ := (Option.bind_some _ _).symm.trans H; rw [hy293]; with_reducible exact H2_) | (have H2_ := (Option.bind_some _ _).symm.trans H; with_reducible exact H2_) | with_reducible exact H | (rw [hy293]; exact H) | exact H
    have Ny293 := Aside0.mk hy293
    clear hy293
    have H' := Aside0.mk H
    clear H
    have p11 : 0 ≤ (x4_1 : Int) := odt
    have q11 : (x4_1 : Int) < ((x3_1.length : Int) : Int) := odt
    obtain ⟨go11, co11, eo11, gb11, gl11, cl11, HG11⟩ := Kd.R_form (kD_toR HO_3.out) (by omega)
    (first | cases eo11 | (injection eo11 with ea_ en_ ec_; (first | subst ea_ | (injection ea_ with ea_; subst ea_)); subst ec_; clear en_))
    have GB11 := Aside0.mk gb11
    have GG11 := Aside0.mk HG11
    clear gb11 gl11 HG11
    obtain ⟨ce11, hcl11, hM11, hcc11, hfr11⟩ := Kd.R_elem (kD_toR HO_3.out) z34 (x4_1 : Int) p11 q11
    obtain ⟨ve11_4, ve11_5, ve11_6, rfl, ge11_4, ge11_5, ge11_6⟩ := k34_openM hM11
    have hx11_0 : w9.cell? ⟨go11, (x4_1 : Int).toNat * 8, none⟩ = some (.int .i64 ((rd_T34 x3_1 x4_1).f0)) := hcc11 0 _ rfl
    have hx11_1 : w9.cell? ⟨go11, (x4_1 : Int).toNat * 8 + 1, none⟩ = some (.string ((rd_T34 x3_1 x4_1).f1)) := hcc11 1 _ rfl
    have hx11_2 : w9.cell? ⟨go11, (x4_1 : Int).toNat * 8 + 2, none⟩ = some (.string ((rd_T34 x3_1 x4_1).f2)) := hcc11 2 _ rfl
    have hx11_3 : w9.cell? ⟨go11, (x4_1 : Int).toNat * 8 + 3, none⟩ = some (.string ((rd_T34 x3_1 x4_1).f3)) := hcc11 3 _ rfl
    have hx11_4 : w9.cell? ⟨go11, (x4_1 : Int).toNat * 8 + 4, none⟩ = some (ve11_4) := hcc11 4 _ rfl
    have hx11_5 : w9.cell? ⟨go11, (x4_1 : Int).toNat * 8 + 5, none⟩ = some (ve11_5) := hcc11 5 _ rfl
    have hx11_6 : w9.cell? ⟨go11, (x4_1 : Int).toNat * 8 + 6, none⟩ = some (ve11_6) := hcc11 6 _ rfl
    have hx11_7 : w9.cell? ⟨go11, (x4_1 : Int).toNat * 8 + 7, none⟩ = some (.string ((rd_T34 x3_1 x4_1).f7)) := hcc11 7 _ rfl
    have hf11_0 : w9.frozen? ⟨go11, (x4_1 : Int).toNat * 8, none⟩ = false := hfr11 0
    have hf11_1 : w9.frozen? ⟨go11, (x4_1 : Int).toNat * 8 + 1, none⟩ = false := hfr11 1
    have hf11_2 : w9.frozen? ⟨go11, (x4_1 : Int).toNat * 8 + 2, none⟩ = false := hfr11 2
    have hf11_3 : w9.frozen? ⟨go11, (x4_1 : Int).toNat * 8 + 3, none⟩ = false := hfr11 3
    have hf11_4 : w9.frozen? ⟨go11, (x4_1 : Int).toNat * 8 + 4, none⟩ = false := hfr11 4
    have hf11_5 : w9.frozen? ⟨go11, (x4_1 : Int).toNat * 8 + 5, none⟩ = false := hfr11 5
    have hf11_6 : w9.frozen? ⟨go11, (x4_1 : Int).toNat * 8 + 6, none⟩ = false := hfr11 6
    have hf11_7 : w9.frozen? ⟨go11, (x4_1 : Int).toNat * 8 + 7, none⟩ = false := hfr11 7
    clear hcl11 hcc11 hfr11 hM11
    replace p11 := eq_true p11
    replace q11 := eq_true q11
    have n_ := Aside0.mk (Kd.S_mono (ok' := (fun k_ => some k_ ≠ (v284 : Value).ownBlock ∧ some k_ ≠ (v287 : Value).ownBlock ∧ some k_ ≠ (v290 : Value).ownBlock)) HO_3.out (fun k_ hk => ⟨hk.1.1.2, ⟨hk.1.2, hk.2⟩⟩))
    clear HO_3
    have HO_3 := n_
    clear n_
    have HX12 := Aside0.mk (show Kd.R k34 34 w9 w.heap.size (fun _ => True) (.slice (some ⟨go11, 0, none⟩) x3_1.length co11) x3_1 from (by (with_reducible repeat (first|apply rA|apply rN|apply rD|apply Kd.S_alloc|apply Kd.S_drewN|apply Kd.S_drew)); exact Kd.R_mono (kD_toR HO_3.out) (fun _ hk => trivial)))
    obtain ⟨ce12, hcl12, hM12, hcc12, hfr12⟩ := Kd.R_elem HX12.out z34 (x4_1 : Int) (odt) (by have h_ : (x4_1 : Int) < ((x3_1.length : Int) : Int) := odt; first | exact h_ | (have e_ := (Kd.R_reads' (kD_toR HO_3.out)).1; omega) | simpa using h_)
    obtain ⟨ve12_4, ve12_5, ve12_6, rfl, ge12_4, ge12_5, ge12_6⟩ := k34_openM hM12
    have HP12 := kD_put8 HN_.out.2.2.2.2 HN_.out.1 (x4_1 : Int) odt (by have h_ : (x4_1 : Int) < ((x3_1.length : Int) : Int) := odt; exact h_) (⟨t279, t280, t281, t282, t283, t286, t289, t292⟩ : S34) HN_.out.2.1 HN_.out.2.2.1 HN_.out.2.2.2.1
    have hx12_0 := hcc12 0 _ rfl
    (try simp only [show (k34).sz = 8 from rfl, Nat.mul_one, Nat.add_zero] at hx12_0)
    have hf12_0 := hfr12 0
    (try simp only [show (k34).sz = 8 from rfl, Nat.mul_one, Nat.add_zero] at hf12_0)
    have hx12_1 := hcc12 1 _ rfl
    (try simp only [show (k34).sz = 8 from rfl, Nat.mul_one, Nat.add_zero] at hx12_1)
    have hf12_1 := hfr12 1
    (try simp only [show (k34).sz = 8 from rfl, Nat.mul_one, Nat.add_zero] at hf12_1)
    have hx12_2 := hcc12 2 _ rfl
    (try simp only [show (k34).sz = 8 from rfl, Nat.mul_one, Nat.add_zero] at hx12_2)
    have hf12_2 := hfr12 2
    (try simp only [show (k34).sz = 8 from rfl, Nat.mul_one, Nat.add_zero] at hf12_2)
    have hx12_3 := hcc12 3 _ rfl
    (try simp only [show (k34).sz = 8 from rfl, Nat.mul_one, Nat.add_zero] at hx12_3)
    have hf12_3 := hfr12 3
    (try simp only [show (k34).sz = 8 from rfl, Nat.mul_one, Nat.add_zero] at hf12_3)
    have hx12_4 := hcc12 4 _ rfl
    (try simp only [show (k34).sz = 8 from rfl, Nat.mul_one, Nat.add_zero] at hx12_4)
    have hf12_4 := hfr12 4
    (try simp only [show (k34).sz = 8 from rfl, Nat.mul_one, Nat.add_zero] at hf12_4)
    have hx12_5 := hcc12 5 _ rfl
    (try simp only [show (k34).sz = 8 from rfl, Nat.mul_one, Nat.add_zero] at hx12_5)
    have hf12_5 := hfr12 5
    (try simp only [show (k34).sz = 8 from rfl, Nat.mul_one, Nat.add_zero] at hf12_5)
    have hx12_6 := hcc12 6 _ rfl
    (try simp only [show (k34).sz = 8 from rfl, Nat.mul_one, Nat.add_zero] at hx12_6)
    have hf12_6 := hfr12 6
    (try simp only [show (k34).sz = 8 from rfl, Nat.mul_one, Nat.add_zero] at hf12_6)
    have hx12_7 := hcc12 7 _ rfl
    (try simp only [show (k34).sz = 8 from rfl, Nat.mul_one, Nat.add_zero] at hx12_7)
    have hf12_7 := hfr12 7
    (try simp only [show (k34).sz = 8 from rfl, Nat.mul_one, Nat.add_zero] at hf12_7)
    clear hcl12 hcc12 hfr12 hM12
    go_wp2_with (first | ((with_reducible refine gate_store (t := 34) (p := 21) rfl ?_); refine store_event (t := 34) (p := 21) (v := ?vo_w13) (w1 := ((((((((w9.setCell ⟨go11, (x4_1 : Int).toNat * 8, none⟩ (.int .i64 t279)).setCell ⟨go11, (x4_1 : Int).toNat * 8 + 1, none⟩ (.string t280)).setCell ⟨go11, (x4_1 : Int).toNat * 8 + 2, none⟩ (.string t281)).setCell ⟨go11, (x4_1 : Int).toNat * 8 + 3, none⟩ (.string t282)).setCell ⟨go11, (x4_1 : Int).toNat * 8 + 4, none⟩ (v284)).setCell ⟨go11, (x4_1 : Int).toNat * 8 + 5, none⟩ (v287)).setCell ⟨go11, (x4_1 : Int).toNat * 8 + 6, none⟩ (v290)).setCell ⟨go11, (x4_1 : Int).toNat * 8 + 7, none⟩ (.string t292))) ?hg ?ho ?hn ?hr ?_; (case ho => rfl); (case hg => rfl); (case hn => rfl); (case hr => ((try (obtain ⟨a_, c_, e_⟩ := Kd.R_slice HO285.out; subst e_)); (try (obtain ⟨a_, c_, e_⟩ := Kd.R_slice HO288.out; subst e_)); (try (obtain ⟨a_, c_, e_⟩ := Kd.S_slice HO291.out; subst e_)); first | (go_simp; done) | (go_simp; rfl))); intro w13 hw; have hg : w9.grownBy w13 (some go11) := (by rw [hw]; exact HP12.2); have hp_ : Kd.S kD 34 w13 w.heap.size (fun _ => True) (.slice (some ⟨go11, 0, none⟩) x3_1.length co11) y293 := (by rw [hw, Ny293.out]; exact HP12.1); clear HP12; replace HO_3 := Aside0.mk (hp_); replace HB := Aside0.mk ((by rw [hw]; exact below_set (below_set (below_set (below_set (below_set (below_set (below_set (below_set (HB.out) GB11.out) GB11.out) GB11.out) GB11.out) GB11.out) GB11.out) GB11.out) GB11.out : Below w.heap.size w w13)); clear HO285; clear HO288; clear HO291; clear hg hw hp_))
    go_roundg k1
    case measure => have := HK1.out; omega
    case rel => exact ⟨(y293), (wrap64 (x4_1 + 1)), rG, H', ⟨by have := HK1.out; omega⟩, ⟨by (with_reducible repeat (first|apply rA|apply rN|apply rD|apply Kd.S_alloc|apply Kd.S_drewN|apply Kd.S_drew)); exact HO_3.out⟩, ⟨hB⟩⟩
   ·rw [if_neg c6] at H
    have c6b0 : decide (x4_1 < (l0.length : Int)) = false := decide_eq_false c6
    clear c6
    obtain rfl := Option.some.inj H
    go_wp2
    go_ret
    exact ⟨_, rE, by (with_reducible repeat (first|apply rA|apply rN|apply rD|apply Kd.S_alloc|apply Kd.S_drewN|apply Kd.S_drew)); exact HO_3.out, hB⟩
def laws_toNode.f (k : Nat) (a0_0 : Int) (a0_1 : ByteArray) (a0_2 : ByteArray) (a0_3 : ByteArray) (l0_4 : List (S64)) (l0_5 : List (S67)) (l0_6 : List (S26)) (a0_7 : ByteArray) : Option (Int × ByteArray × ByteArray × ByteArray × (List (S69)) × (List (S71)) × (List (S34)) × ByteArray) := laws_toNode.F (laws_toNodeS.f k) k a0_0 a0_1 a0_2 a0_3 l0_4 l0_5 l0_6 a0_7
theorem laws_toNode.callsD (k : Nat) (a0_0 : Int) (a0_1 : ByteArray) (a0_2 : ByteArray) (a0_3 : ByteArray) (A0_4 : Option Addr) (c0_4 : Nat) (l0_4 : List (S64)) (A0_5 : Option Addr) (c0_5 : Nat) (l0_5 : List (S67)) (A0_6 : Option Addr) (c0_6 : Nat) (l0_6 : List (S26)) (a0_7 : ByteArray) (r1 : Int) (r2 : ByteArray) (r3 : ByteArray) (r4 : ByteArray) (r5 : List (S69)) (r6 : List (S71)) (r7 : List (S34)) (r8 : ByteArray) (w : World) (hr0_4 : Kd.C k64 w A0_4 l0_4.length l0_4) (hc0_4 : l0_4.length ≤ c0_4) (hr0_5 : Kd.C k67 w A0_5 l0_5.length l0_5) (hc0_5 : l0_5.length ≤ c0_5) (hr0_6 : Kd.C k26 w A0_6 l0_6.length l0_6) (hc0_6 : l0_6.length ≤ c0_6) (h : laws_toNode.f k a0_0 a0_1 a0_2 a0_3 l0_4 l0_5 l0_6 a0_7 = some (r1, r2, r3, r4, r5, r6, r7, r8)) :
  Calls Try.prog 7 #[.agg #[.int .i64 a0_0, .string a0_1, .string a0_2, .string a0_3, .slice A0_4 l0_4.length c0_4, .slice A0_5 l0_5.length c0_5, .slice A0_6 l0_6.length c0_6, .string a0_7]] w fun e w' => ∃ v4_ v5_ v6_ : Value, e = .returned (.agg #[.int .i64 r1, .string r2, .string r3, .string r4, v4_, v5_, v6_, .string r8]) ∧ Kd.R k69 69 w' w.heap.size (fun _ => True) v4_ r5 ∧ Kd.R k71 71 w' w.heap.size (fun _ => True) v5_ r6 ∧ Kd.S kD 34 w' w.heap.size (fun k_ => some k_ ≠ (v4_ : Value).ownBlock ∧ some k_ ≠ (v5_ : Value).ownBlock) v6_ r7 ∧ Below w.heap.size w w' := laws_toNode.callsF (laws_toNodeS.f k) (laws_toNodeS.callsD k) k a0_0 a0_1 a0_2 a0_3 A0_4 c0_4 l0_4 A0_5 c0_5 l0_5 A0_6 c0_6 l0_6 a0_7 r1 r2 r3 r4 r5 r6 r7 r8 w hr0_4 hc0_4 hr0_5 hc0_5 hr0_6 hc0_6 h
theorem laws_toNodeS.calls (k : Nat) : ∀ (A0 : Option Addr) (c0 : Nat) (l0 : List (S26)) (r : List (S34)) (w : World) (hr0 : Kd.C k26 w A0 l0.length l0) (hc0 : l0.length ≤ c0) (h : laws_toNodeS.f k l0 = some r),
  Calls Try.prog 9 #[.slice A0 l0.length c0] w fun e w' => ∃ v0_ : Value, e = .returned (v0_) ∧ Kd.R k34 34 w' w.heap.size (fun _ => True) v0_ r ∧ Below w.heap.size w w' := by
  intro A0 c0 l0 r w hr0 hc0 h
  refine (laws_toNodeS.callsD k A0 c0 l0 r w hr0 hc0 h).mono ?_
  rintro e w' ⟨v, rfl, h1, h2⟩
  exact ⟨v, rfl, kD_toR h1, h2⟩
theorem laws_toNode.calls (k : Nat) (a0_0 : Int) (a0_1 : ByteArray) (a0_2 : ByteArray) (a0_3 : ByteArray) (A0_4 : Option Addr) (c0_4 : Nat) (l0_4 : List (S64)) (A0_5 : Option Addr) (c0_5 : Nat) (l0_5 : List (S67)) (A0_6 : Option Addr) (c0_6 : Nat) (l0_6 : List (S26)) (a0_7 : ByteArray) (r1 : Int) (r2 : ByteArray) (r3 : ByteArray) (r4 : ByteArray) (r5 : List (S69)) (r6 : List (S71)) (r7 : List (S34)) (r8 : ByteArray) (w : World) (hr0_4 : Kd.C k64 w A0_4 l0_4.length l0_4) (hc0_4 : l0_4.length ≤ c0_4) (hr0_5 : Kd.C k67 w A0_5 l0_5.length l0_5) (hc0_5 : l0_5.length ≤ c0_5) (hr0_6 : Kd.C k26 w A0_6 l0_6.length l0_6) (hc0_6 : l0_6.length ≤ c0_6) (h : laws_toNode.f k a0_0 a0_1 a0_2 a0_3 l0_4 l0_5 l0_6 a0_7 = some (r1, r2, r3, r4, r5, r6, r7, r8)) :
  Calls Try.prog 7 #[.agg #[.int .i64 a0_0, .string a0_1, .string a0_2, .string a0_3, .slice A0_4 l0_4.length c0_4, .slice A0_5 l0_5.length c0_5, .slice A0_6 l0_6.length c0_6, .string a0_7]] w fun e w' => ∃ v4_ v5_ v6_ : Value, e = .returned (.agg #[.int .i64 r1, .string r2, .string r3, .string r4, v4_, v5_, v6_, .string r8]) ∧ Kd.R k69 69 w' w.heap.size (fun _ => True) v4_ r5 ∧ Kd.R k71 71 w' w.heap.size (fun _ => True) v5_ r6 ∧ Kd.R k34 34 w' w.heap.size (fun k_ => some k_ ≠ (v4_ : Value).ownBlock ∧ some k_ ≠ (v5_ : Value).ownBlock) v6_ r7 ∧ Below w.heap.size w w' := by
  refine (laws_toNode.callsD k a0_0 a0_1 a0_2 a0_3 A0_4 c0_4 l0_4 A0_5 c0_5 l0_5 A0_6 c0_6 l0_6 a0_7 r1 r2 r3 r4 r5 r6 r7 r8 w hr0_4 hc0_4 hr0_5 hc0_5 hr0_6 hc0_6 h).mono ?_
  rintro e w' ⟨v4, v5, v6, rfl, h1, h2, h3, h4⟩
  exact ⟨v4, v5, v6, rfl, h1, h2, kD_toR h3, h4⟩

end Go.Proofs.Ytglmahgliihkaaa.PY
