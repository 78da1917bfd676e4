-- Written by the session's program hprint.py, over the kit's print program. Lean checks it.
import Derived.Test.YtglmahgliihkaaaPYx0
import Derived.Test.YtglmahgliihkaaaPYx4
import Derived.Test.YtglmahgliihkaaaPYx9
namespace Go.Proofs.Ytglmahgliihkaaa.PY
open Go.RowKit Go.Proofs.YtglmahgliihkaaaW.PrintWords Go.Proofs.YtglmahgliihkaaaW.PrintLast Go.Proofs.YtglmahgliihkaaaW.PrintMore
attribute [local go_sem] max2_int min2_int max_two min_two max_three min_three max_four min_four   -- for this text's walks alone
set_option linter.unusedVariables false
set_option linter.unusedSimpArgs false
set_option maxHeartbeats 8000000
set_option maxRecDepth 100000

/-! ### laws_markNode: function 14 -/
def laws_markNode.g (k : Nat) (x : S34) (a : Int) : Option (Int × S34) :=
  (laws_markDeclS.f k x.f4 a).bind fun d => (laws_markAttrS.f k x.f5 d.1).bind fun t => (laws_markNodeS.f k x.f6 t.1).bind fun c => some (c.1, ⟨x.f0, x.f1, x.f2, x.f3, d.2, t.2, c.2, x.f7⟩)
def laws_markNode.f (k : Nat) (a0_0 : Int) (a0_1 a0_2 a0_3 : ByteArray) (l0_4 : List S69) (l0_5 : List S71) (l0_6 : List S34) (a0_7 : ByteArray) (a1 : Int) : Option Int :=
  (laws_markNode.g k ⟨a0_0, a0_1, a0_2, a0_3, l0_4, l0_5, l0_6, a0_7⟩ a1).map (·.1)
set_option maxRecDepth 100000 in
set_option maxHeartbeats 1000000 in
theorem laws_markNode.calls (k : Nat) (P : Nat → Prop) (x : S34) (v4 v5 v6 : Value) (o6 : Nat → Prop) (a1 r1 : Int) (x2 : S34) (w0 w : World) (hB : Below w0.heap.size w0 w) (hD : DN kD w w0.heap.size P x v4 v5 v6 o6) (h : laws_markNode.g k x a1 = some (r1, x2)) :
    Calls Try.prog 14 #[.agg #[.int .i64 x.f0, .string x.f1, .string x.f2, .string x.f3, v4, v5, v6, .string x.f7], .int .i64 a1] w fun e w' => e = .returned (.int .i64 r1) ∧ DN kD w' w0.heap.size P x2 v4 v5 v6 o6 ∧ Below w0.heap.size w0 w' ∧ Kept w w' (fun k => some k = v4.ownBlock ∨ some k = v5.ownBlock ∨ o6 k) := by
  obtain ⟨f0, f1, f2, f3, f4, f5, f6, f7⟩ := x
  obtain ⟨h4, h5, h6, a4, a5, a6⟩ := hD
  obtain ⟨⟨d1, d2⟩, hd, h1⟩ := Option.bind_eq_some_iff.1 h
  obtain ⟨⟨e1, e2⟩, ht, h2⟩ := Option.bind_eq_some_iff.1 h1
  obtain ⟨⟨c1, c2⟩, hc, h3⟩ := Option.bind_eq_some_iff.1 h2
  clear h h1 h2
  cases h3
  have TD := Aside0.mk hd
  have TT := Aside0.mk ht
  have TC := Aside0.mk hc
  have HA := Aside0.mk (And.intro a4 (And.intro a5 a6))
  have hu := Try.underlying34
  have n45 : ∀ W : World, Kd.R k69 69 W w0.heap.size (fun k => some k = v4.ownBlock) v4 f4 → Kd.R k71 71 W w0.heap.size (fun k => some k = v5.ownBlock) v5 f5 → ∀ k, some k = v5.ownBlock → ¬ some k = v4.ownBlock := fun W q4 q5 k k5 k4 => by
    obtain ⟨z1, y1⟩ := Kd.R_typed q4 k k4.symm
    obtain ⟨z2, y2⟩ := Kd.R_typed q5 k k5.symm
    rw [y1] at y2
    cases y2
  have hne := n45 w h4 h5
  have HN := Aside0.mk hne
  obtain ⟨A4, c4, e4⟩ := Kd.R_slice h4
  obtain ⟨A5, c5, e5⟩ := Kd.R_slice h5
  obtain ⟨A6, c6, e6⟩ := Kd.S_slice h6
  have hW := And.intro h4 (And.intro h5 (Kd.S_mono (Kd.S_bound h6) (ok' := fun k => o6 k ∧ k < w.heap.size) (fun k hk => ⟨hk.1, hk.2.2.1⟩)))
  have HW := Aside0.mk hW
  have HB := Aside0.mk hB
  clear hW hB h4 h5 h6 a4 a5 a6 hd ht hc hne n45
  dsimp only at TD TT TC HW ⊢
  generalize hl4 : f4.length = n4 at e4
  generalize hl5 : f5.length = n5 at e5
  generalize hl6 : f6.length = n6 at e6
  clear hl4 hl5 hl6
  subst e4 e5 e6
  go_enter Try.func14, Try.ntmps14
  go_wp2_with (first
    | ((with_reducible refine gate_dst (N := 2) rfl ?_); refine box_event ?hg (N := 2) ?hd (cs := #[.int .i64 f0, .string f1, .string f2, .string f3, .slice A4 n4 c4, .slice A5 n5 c5, .slice A6 n6 c6, .string f7]) (t := 34) ?hr ?_; (case hd => rfl); (case hg => rfl); (case hr => first | (go_simp; done) | (go_simp; rfl)); intro gb hg wb hbox hb; have BK := Aside0.mk hbox; have H4 := Aside0.mk (Kd.R_below HW.out.1 hb); have H5 := Aside0.mk (Kd.R_below HW.out.2.1 hb); have H6 := Aside0.mk (Kd.S_below HW.out.2.2 hb); have HK := Aside0.mk (Kept.of_below hb (fun k => some k = (Value.slice A4 n4 c4).ownBlock ∨ some k = (Value.slice A5 n5 c5).ownBlock ∨ o6 k)); have HE := Aside0.mk (And.intro (show ∀ k, some k = (Value.slice A4 n4 c4).ownBlock → k ≠ gb from fun k h_ => by have := Kd.R_lt HW.out.1 k h_.symm; omega) (And.intro (show ∀ k, some k = (Value.slice A5 n5 c5).ownBlock → k ≠ gb from fun k h_ => by have := Kd.R_lt HW.out.2.1 k h_.symm; omega) (show ∀ k, k < w.heap.size → k ≠ gb from fun k h_ => by omega))); replace HB := Aside0.mk (below_step HB.out hb); clear hg hbox hb HW; obtain ⟨hz0, hz1, hz2, hz3, hz4, hz5, hz6, hz7⟩ := bc8 BK.out)
    | (go_at_call 34; ((with_reducible refine (laws_markDeclS.calls k (fun k_ => some k_ = (Value.slice A4 n4 c4).ownBlock) (.slice A4 n4 c4) f4 a1 d1 d2 w0 _ HB.out H4.out TD.out).mono ?_); rintro e w1 ⟨rfl, hR, hb, hkp⟩; replace H4 := Aside0.mk (Kd.R_tight rfl hR); replace H5 := Aside0.mk (Kd.R_kept H5.out hkp (fun k_ => HN.out k_)); replace H6 := Aside0.mk (Kd.S_kept H6.out hkp (fun k_ h_ => (HA.out.2.2 k_ h_.1).2.1)); replace HK := Aside0.mk (Kept.then_ HK.out hkp (fun k_ h_ => .inl (.inl h_))); replace BK := Aside0.mk (blk_kept BK.out hkp (fun h_ => absurd rfl (HE.out.1 gb h_))); replace HB := Aside0.mk hb; clear hR hb hkp; obtain ⟨hz0, hz1, hz2, hz3, hz4, hz5, hz6, hz7⟩ := bc8 BK.out))
    | (go_at_call 35; ((with_reducible refine (laws_markAttrS.calls k (fun k_ => some k_ = (Value.slice A5 n5 c5).ownBlock) (.slice A5 n5 c5) f5 d1 e1 e2 w0 _ HB.out H5.out TT.out).mono ?_); rintro e w2 ⟨rfl, hR, hb, hkp⟩; replace H5 := Aside0.mk (Kd.R_tight rfl hR); replace H4 := Aside0.mk (Kd.R_kept H4.out hkp (fun k_ h4_ h5_ => HN.out k_ h5_ h4_)); replace H6 := Aside0.mk (Kd.S_kept H6.out hkp (fun k_ h_ => (HA.out.2.2 k_ h_.1).2.2)); replace HK := Aside0.mk (Kept.then_ HK.out hkp (fun k_ h_ => .inl (.inr (.inl h_)))); replace BK := Aside0.mk (blk_kept BK.out hkp (fun h_ => absurd rfl (HE.out.2.1 gb h_))); replace HB := Aside0.mk hb; clear hR hb hkp; obtain ⟨hz0, hz1, hz2, hz3, hz4, hz5, hz6, hz7⟩ := bc8 BK.out))
    | (go_at_call 16; ((with_reducible refine (laws_markNodeS.calls k (fun k => o6 k ∧ k < w.heap.size) (.slice A6 n6 c6) f6 e1 c1 c2 w0 _ HB.out H6.out TC.out).mono ?_); rintro e w3 ⟨rfl, hR, hb, hkp⟩; replace H6 := Aside0.mk hR; replace H4 := Aside0.mk (Kd.R_kept H4.out hkp (fun k_ h4_ h6_ => (HA.out.2.2 k_ h6_.1).2.1 h4_)); replace H5 := Aside0.mk (Kd.R_kept H5.out hkp (fun k_ h5_ h6_ => (HA.out.2.2 k_ h6_.1).2.2 h5_)); replace HK := Aside0.mk (Kept.then_ HK.out hkp (fun k_ h_ => .inl (.inr (.inr h_.1)))); replace HB := Aside0.mk hb; clear hR hb hkp)))
  go_ret
  exact ⟨rfl, ⟨H4.out, H5.out, Kd.S_mono H6.out (fun k h_ => h_.1), HA.out.1, HA.out.2.1, HA.out.2.2⟩, HB.out, HK.out⟩
theorem laws_markNode.calls8 (k : Nat) (P : Nat → Prop) (f0 : Int) (f1 f2 f3 : ByteArray) (f4 : List S69) (f5 : List S71) (f6 : List S34) (f7 : ByteArray) (v4 v5 v6 : Value) (o6 : Nat → Prop) (a1 r1 : Int) (x2 : S34) (w0 w : World) (hB : Below w0.heap.size w0 w) (hD : DN kD w w0.heap.size P ⟨f0, f1, f2, f3, f4, f5, f6, f7⟩ v4 v5 v6 o6) (h : laws_markNode.g k ⟨f0, f1, f2, f3, f4, f5, f6, f7⟩ a1 = some (r1, x2)) :
    Calls Try.prog 14 #[.agg #[.int .i64 f0, .string f1, .string f2, .string f3, v4, v5, v6, .string f7], .int .i64 a1] w fun e w' => e = .returned (.int .i64 r1) ∧ DN kD w' w0.heap.size P x2 v4 v5 v6 o6 ∧ Below w0.heap.size w0 w' ∧ Kept w w' (fun k => some k = v4.ownBlock ∨ some k = v5.ownBlock ∨ o6 k) :=
  laws_markNode.calls k P ⟨f0, f1, f2, f3, f4, f5, f6, f7⟩ v4 v5 v6 o6 a1 r1 x2 w0 w hB hD h

/-! ### laws_markIntS: function 15 -/
def laws_markIntS.l0 : Nat → List Int → Int → Int → Option (Int × List Int)
 | 0, _, _, _ => none
 | k + 1, x0, x1, x5 => if x5 < (x0.length : Int) then (if 0 ≤ x5 then (laws_markIntS.l0 k (x0.set (x5 : Int).toNat x1) (wrap64 (x1 + 1)) (wrap64 (x5 + 1))) else (none)) else (some (x1, x0))
def laws_markIntS.f (k : Nat) (l0 : List Int) (a1 : Int) : Option (Int × List Int) := laws_markIntS.l0 k l0 a1 0
theorem laws_markIntS.calls (k : Nat) (P0_ : Nat → Prop) (u9000_ : Value) (l0 : List Int) (a1 : Int) (r1 : Int) (r2 : List Int) (w0 w : World) (hB : Below w0.heap.size w0 w) (ho0 : Kd.R (Kd.int .i64) 3 w w0.heap.size P0_ u9000_ l0) (h : laws_markIntS.f k l0 a1 = some (r1, r2)) :
  Calls Try.prog 15 #[u9000_, .int .i64 a1] w fun e w' => e = .returned (.int .i64 r1) ∧ Kd.R (Kd.int .i64) 3 w' w0.heap.size (fun k_ => (P0_ k_ ∨ w.heap.size ≤ k_)) u9000_ r2 ∧ Below w0.heap.size w0 w' ∧ Kept w w' (fun k_ => P0_ k_) := by
 have HO0 := Aside0.mk (show Kd.R (Kd.int .i64) 3 w w0.heap.size (fun k_ => (P0_ k_ ∨ w.heap.size ≤ k_)) u9000_ l0 from Kd.R_mono ho0 (fun k_ hk => (.inl hk)))
 have HK := Aside0.mk (Kept.refl w (fun k_ => P0_ k_))
 have HW0 := Aside0.mk hB.size
 have HB := Aside0.mk hB
 clear hB
 have H : (laws_markIntS.l0 k l0 a1 0) = some (r1, r2) := h
 clear h
 have H' := Aside0.mk H
 clear H
 go_enter Try.func15, Try.ntmps15
 go_wp2
 go_loopg [1, 5] k (fun kq v1 v5 w' => ∃ (x0_1 : List Int) (x1_1 : Int) (x5_1 : Int), v1 = .int .i64 x1_1 ∧ v5 = .int .i64 x5_1 ∧ Aside0 (laws_markIntS.l0 kq x0_1 x1_1 x5_1 = some (r1, r2)) ∧ Aside0 (kq ≤ k) ∧ Aside0 (Kd.R (Kd.int .i64) 3 w' w0.heap.size (fun k_ => (P0_ k_ ∨ w.heap.size ≤ k_)) u9000_ x0_1) ∧ Aside0 (Kept w w' (fun k_ => P0_ k_)) ∧ Aside0 (Below w0.heap.size w0 w'))
 case atStart => exact ⟨(l0), (a1), (0), rG, rG, H', ⟨Nat.le_refl _⟩, ⟨by (with_reducible repeat (first|apply rA|apply rN|apply rD)); exact HO0.out⟩, ⟨by repeat (first|(with_reducible first|exact HK.out | apply Kept.alloc | apply Kept.drewN | apply Kept.drew) | exact HK.out)⟩, ⟨hB⟩⟩
 case round =>
  clear H'
  obtain ⟨x0_1, x1_1, x5_1, rfl, rfl, HA, HK1, HO_0, HK, HB⟩ := hrel
  cases gk with
  | zero => exact absurd HA.out (by simp [laws_markIntS.l0])
  | succ k1 =>
   have H := HA.out
   clear HA
   simp only [laws_markIntS.l0] at H
   by_cases c3 : x5_1 < (x0_1.length : Int)
   ·rw [if_pos c3] at H
    have c3b0 : decide (x5_1 < (x0_1.length : Int)) = true := decide_eq_true c3
    clear c3
    obtain ⟨c4, H⟩ := if_som H
    have c4b0 : decide (0 ≤ x5_1) = true := decide_eq_true c4
    clear c4
    obtain ⟨y461, hy461⟩ : ∃ y_ : List Int, y_ = (x0_1.set (x5_1 : Int).toNat x1_1) := ⟨_, rfl⟩
    replace H : (laws_markIntS.l0 k1 y461 (wrap64 (x1_1 + 1)) (wrap64 (x5_1 + 1))) = some (r1, r2) := by first | (rw [hy461]; with_reducible exact H) | (have H2_ := (Option.bind_some _ _).symm.trans H; rw [hy461]; with_reducible exact H2_) | (have H2_ := (Option.bind_some _ _).symm.trans H; with_reducible exact H2_) | with_reducible exact H | (rw [hy461]; exact H) | exact H
    have Ny461 := Aside0.mk hy461
    clear hy461
    have H' := Aside0.mk H
    clear H
    obtain ⟨Ao6, co6, eo6⟩ := Kd.R_slice HO_0.out
    subst eo6
    have p5 : 0 ≤ (x5_1 : Int) := odt
    have q5 : (x5_1 : Int) < ((x0_1.length : Int) : Int) := odt
    obtain ⟨go5, co5, eo5, gb5, gl5, cl5, HG5⟩ := Kd.R_form HO_0.out (by omega)
    (first | cases eo5 | (injection eo5 with ea_ en_ ec_; (first | subst ea_ | (injection ea_ with ea_; subst ea_)); subst ec_; clear en_))
    have GB5 := Aside0.mk gb5
    have GG5 := Aside0.mk HG5
    clear gb5 gl5 HG5
    have HMgo5 := Aside0.mk (show (P0_ go5 ∨ w.heap.size ≤ go5) from (HO_0.out.1 _ rfl))
    obtain ⟨hx5_0, hf5_0⟩ := Kd.R_celln 0 HO_0.out (x5_1 : Int) p5 q5
    replace p5 := eq_true p5
    replace q5 := eq_true q5
    have HP7 := Kd.R_putg HO_0.out (x5_1 : Int) x1_1
    go_wp2_with (first | ((with_reducible refine gate_store (t := 3) (p := 15) rfl ?_); refine store_event (t := 3) (p := 15) (v := ?vo_w8) (w1 := (wr.setCell ⟨go5, (x5_1 : Int).toNat, none⟩ (.int .i64 x1_1))) ?hg ?ho ?hn ?hr ?_; (case ho => rfl); (case hg => rfl); (case hn => rfl); (case hr => first | (go_simp; done) | (go_simp; rfl)); intro w8 hw; have hg : wr.grownBy w8 (some go5) := (by rw [hw]; exact HP7.2); have hp_ : Kd.R (Kd.int .i64) 3 w8 w0.heap.size (fun k_ => (P0_ k_ ∨ w.heap.size ≤ k_)) (.slice (some ⟨go5, 0, none⟩) x0_1.length co6) y461 := (by rw [hw, Ny461.out]; exact HP7.1); clear HP7; replace HB := Aside0.mk ((by rw [hw]; exact below_set (HB.out) GB5.out : Below w0.heap.size w0 w8)); replace HK := Aside0.mk (Kept.of_grown (S := (fun k_ => P0_ k_)) hg (by repeat (first|(with_reducible first|exact HK.out | apply Kept.alloc | apply Kept.drewN | apply Kept.drew) | exact HK.out)) (fun k_ e_ => (HO_0.out.1 k_ e_))); replace HO_0 := Aside0.mk (hp_); clear hg hw hp_))
    go_roundg k1
    case measure => have := HK1.out; omega
    case rel => exact ⟨(y461), (wrap64 (x1_1 + 1)), (wrap64 (x5_1 + 1)), rG, rG, H', ⟨by have := HK1.out; omega⟩, ⟨by (with_reducible repeat (first|apply rA|apply rN|apply rD)); exact HO_0.out⟩, ⟨by repeat (first|(with_reducible first|exact HK.out | apply Kept.alloc | apply Kept.drewN | apply Kept.drew) | exact HK.out)⟩, ⟨hB⟩⟩
   ·rw [if_neg c3] at H
    have c3b0 : decide (x5_1 < (x0_1.length : Int)) = false := decide_eq_false c3
    clear c3
    simp only [Option.some.injEq, Prod.mk.injEq] at H
    obtain ⟨rfl, rfl⟩ := H
    obtain ⟨Ao9, co9, eo9⟩ := Kd.R_slice HO_0.out
    subst eo9
    go_wp2
    go_ret
    exact ⟨rE, by (with_reducible repeat (first|apply rA|apply rN|apply rD)); exact HO_0.out, hB, by repeat (first|(with_reducible first|exact HK.out | apply Kept.alloc | apply Kept.drewN | apply Kept.drew) | exact HK.out)⟩

/-! ### laws_heldDeclS: function 37 -/
def laws_heldDeclS.l0 : Nat → List (S69) → Int → Int → Option (Int)
 | 0, _, _, _ => none
 | k + 1, x0, x1, x5 => if x5 < (x0.length : Int) then (if 0 ≤ x5 then ((laws_markText.f k x1).bind fun t463 => (if ((rd_T69 x0 x5).f0).toList = t463.toList then ((laws_markText.f k (wrap64 (x1 + 1))).bind fun t465 => (if ((rd_T69 x0 x5).f1).toList = t465.toList then (laws_heldDeclS.l0 k x0 (wrap64 ((wrap64 (x1 + 1)) + 1)) (wrap64 (x5 + 1))) else (some (-1)))) else (some (-1)))) else (none)) else (some x1)
def laws_heldDeclS.f (k : Nat) (l0 : List (S69)) (a1 : Int) : Option (Int) := laws_heldDeclS.l0 k l0 a1 0
def laws_heldDeclS.T4 : Bool × List (List Nat × List Nat) := (true, [([], []), ([], []), ([0, 1], [0, 1]), ([2], [2]), ([3], [3]), ([], []), ([5], [5]), ([4, 6], [4, 6])])
def laws_heldDeclS.B4 : List Nat := [0, 0, 3, 7, 15, 0, 32, 127]
theorem laws_heldDeclS.tab4 : rtab .any (opsOf Try.f37 4) = laws_heldDeclS.T4 := by kernel_rfl
theorem laws_heldDeclS.bits4 : waitsOk laws_heldDeclS.T4.2 laws_heldDeclS.B4 = true := by kernel_rfl
def laws_heldDeclS.T7 : Bool × List (List Nat × List Nat) := (true, [([], []), ([], []), ([0, 1], [0, 1]), ([2], [2]), ([3], [3]), ([], []), ([5], [5]), ([4, 6], [4, 6])])
def laws_heldDeclS.B7 : List Nat := [0, 0, 3, 7, 15, 0, 32, 127]
theorem laws_heldDeclS.tab7 : rtab .any (opsOf Try.f37 7) = laws_heldDeclS.T7 := by kernel_rfl
theorem laws_heldDeclS.bits7 : waitsOk laws_heldDeclS.T7.2 laws_heldDeclS.B7 = true := by kernel_rfl
theorem laws_heldDeclS.calls (k : Nat) (A0 : Option Addr) (c0 : Nat) (l0 : List (S69)) (a1 : Int) (r : Int) (w : World) (hr0 : Kd.C k69 w A0 l0.length l0) (hc0 : l0.length ≤ c0) (h : laws_heldDeclS.f k l0 a1 = some r) :
  Calls Try.prog 37 #[.slice A0 l0.length c0, .int .i64 a1] w fun e w' => e = .returned (.int .i64 r) ∧ Below w.heap.size w w' := by
 have HR0 := Aside0.mk hr0
 have HC0 := Aside0.mk hc0
 clear hr0 hc0
 have HB := Aside0.mk (Below.refl w.heap.size w)
 have H : (laws_heldDeclS.l0 k l0 a1 0) = some r := h
 clear h
 have H' := Aside0.mk H
 clear H
 go_enter Try.func37, Try.ntmps37
 go_wp2
 go_loopg [1, 5] k (fun kq v1 v5 w' => ∃ (x1_1 : Int) (x5_1 : Int), v1 = .int .i64 x1_1 ∧ v5 = .int .i64 x5_1 ∧ Aside0 (laws_heldDeclS.l0 kq l0 x1_1 x5_1 = some r) ∧ Aside0 (kq ≤ k) ∧ Aside0 (Below w.heap.size w w'))
 case atStart => exact ⟨(a1), (0), rG, rG, H', ⟨Nat.le_refl _⟩, ⟨hB⟩⟩
 case round =>
  clear H'
  obtain ⟨x1_1, x5_1, rfl, rfl, HA, HK1, HB⟩ := hrel
  cases gk with
  | zero => exact absurd HA.out (by simp [laws_heldDeclS.l0])
  | succ k1 =>
   have H := HA.out
   clear HA
   simp only [laws_heldDeclS.l0] at H
   by_cases c3 : x5_1 < (l0.length : Int)
   ·rw [if_pos c3] at H
    have c3b0 : decide (x5_1 < (l0.length : Int)) = true := decide_eq_true c3
    clear c3
    obtain ⟨c4, H⟩ := if_som H
    have c4b0 : decide (0 ≤ x5_1) = true := decide_eq_true c4
    clear c4
    replace H := Option.bind_eq_some_iff.mp H
    obtain ⟨t463, A50, H⟩ := H
    try dsimp only at H
    have A5 := Aside0.mk A50
    clear A50
    try go_wp2
    replace HB := Aside0.mk (below_drew1 HB.out)
    have p462 : 0 ≤ (x5_1 : Int) := odt
    have q462 : x5_1 < (l0.length : Int) := odt
    obtain ⟨ad462, e462, hx462_0, hx462_1⟩ := at_T69 HR0.out x5_1 p462 q462
    have hw462_1 := hx462_1
    have hw462_0 := hx462_0
    cases e462
    replace hx462_0 := pw_cell_below HB.out hx462_0
    replace hx462_1 := pw_cell_below HB.out hx462_1
    replace p462 := eq_true p462
    replace q462 := eq_true q462
    refine start_ (n := 8) (S := fun w' => w'.cell? (ad462.add ((x5_1).toNat * 2)) = some (.string ((rd_T69 l0 x5_1).f0)) ∧ w'.cell? ⟨(ad462.add ((x5_1).toNat * 2)).block, (ad462.add ((x5_1).toNat * 2)).off + 1, none⟩ = some (.string ((rd_T69 l0 x5_1).f1))) (ds := []) #[false, false, false, false, false, false, false, false] (by kernel_rfl) rfl rfl ⟨(pw_cell_below HB.out hw462_0), (pw_cell_below HB.out hw462_1)⟩ (fun hHeld => ?_); refine with_tabW laws_heldDeclS.tab4 laws_heldDeclS.bits4 (fun HT_ HW_ => ?_)
    generalize wr.drew = w6 at HB hx462_0 hx462_1 hHeld ⊢
    refine pU 0 12 (tf 1 7) ?_
    refine pU 1 13 (tf 2 6) ?_
    refine pU 2 14 (tf 3 5) ?_
    refine pU 3 15 (tf 4 4) ?_
    refine pU 5 17 #[true, true, true, true, false, true, false, false] ?_
    refine take_ (i := 4) (N := some 16) (v := ?_) (a' := ?_) (tf 6 2) rfl rfl (take_ofW HT_.out HW_.out (by kernel_rfl)) (fun _ _ _ h => h) (Or.inl ⟨by rfl, ?_⟩) hHeld ?_ ?_
    rotate_left
    ·rintro w' ⟨s0, s1⟩
     go_simp
     with_reducible rfl
    rotate_left
    ·simp only [Act.put, sT, sZ, sS, i64_w, i32_w]
     rfl
    refine one_ (i := 6) (N := some 18) (tf 7 1) rfl rfl (one_of HT_.out (by kernel_rfl)) (by decide) (fun K hK => ?_)
    refine goes_ Try.func36 (by kernel_rfl) rfl #[.int .i64 x1_1] (by rfl) rfl rfl mA ?_
    with_reducible refine (laws_markText.calls k1 x1_1 t463 _ A5.out).mono ?_
    rintro e w7 ⟨rfl, hb⟩
    refine ⟨_, rfl, ?_⟩
    replace HB := Aside0.mk (below_step hB hb)
    (try clear hb)
    (try clear hb2)
    (try clear hk)
    (try clear hi)
    refine hK.out _ _ ⟨(pw_cell_below HB.out hw462_0), (pw_cell_below HB.out hw462_1)⟩ (fun hHeld => ?_)
    clear hK K
    refine norm_ (a' := ?_) ?_ ?_
    rotate_left
    ·show Act.put _ (some 18) _ = _
     simp only [Act.put, sT, sZ, sS, i64_w, i32_w]
     rfl
    refine pU 7 19 (tf 8 0) ?_
    refine done_ (done_of HT_.out (by kernel_rfl)) ?_
    by_cases c8 : ((rd_T69 l0 x5_1).f0).toList = t463.toList
    ·rw [if_pos c8] at H
     obtain ⟨c8b0, c8b1⟩ := eqT c8
     clear c8
     (first | rw [c8b0] | (simp only [i64_w, i32_w]; rw [c8b0]) | skip)
     replace H := Option.bind_eq_some_iff.mp H
     obtain ⟨t465, A90, H⟩ := H
     try dsimp only at H
     have A9 := Aside0.mk A90
     clear A90
     try go_wp2
     replace HB := Aside0.mk (below_drew1 HB.out)
     have p464 : 0 ≤ (x5_1 : Int) := odt
     have q464 : x5_1 < (l0.length : Int) := odt
     obtain ⟨ad464, e464, hx464_0, hx464_1⟩ := at_T69 HR0.out x5_1 p464 q464
     have hw464_1 := hx464_1
     have hw464_0 := hx464_0
     obtain rfl : ad462 = ad464 := (by injection e464)
     replace hx464_0 := pw_cell_below HB.out hx464_0
     replace hx464_1 := pw_cell_below HB.out hx464_1
     replace p464 := eq_true p464
     replace q464 := eq_true q464
     refine start_ (n := 8) (S := fun w' => w'.cell? (ad462.add ((x5_1).toNat * 2)) = some (.string ((rd_T69 l0 x5_1).f0)) ∧ w'.cell? ⟨(ad462.add ((x5_1).toNat * 2)).block, (ad462.add ((x5_1).toNat * 2)).off + 1, none⟩ = some (.string ((rd_T69 l0 x5_1).f1))) (ds := []) #[false, false, false, false, false, false, false, false] (by kernel_rfl) rfl rfl ⟨(pw_cell_below HB.out hw464_0), (pw_cell_below HB.out hw464_1)⟩ (fun hHeld => ?_); refine with_tabW laws_heldDeclS.tab7 laws_heldDeclS.bits7 (fun HT_ HW_ => ?_)
     generalize w7.drew = w10 at HB hx464_0 hx464_1 hHeld ⊢
     refine pU 0 22 (tf 1 7) ?_
     refine pU 1 23 (tf 2 6) ?_
     refine pU 2 24 (tf 3 5) ?_
     refine pU 3 25 (tf 4 4) ?_
     refine pU 5 27 #[true, true, true, true, false, true, false, false] ?_
     refine take_ (i := 4) (N := some 26) (v := ?_) (a' := ?_) (tf 6 2) rfl rfl (take_ofW HT_.out HW_.out (by kernel_rfl)) (fun _ _ _ h => h) (Or.inl ⟨by rfl, ?_⟩) hHeld ?_ ?_
     rotate_left
     ·rintro w' ⟨s0, s1⟩
      go_simp
      with_reducible rfl
     rotate_left
     ·simp only [Act.put, sT, sZ, sS, i64_w, i32_w]
      rfl
     refine one_ (i := 6) (N := some 28) (tf 7 1) rfl rfl (one_of HT_.out (by kernel_rfl)) (by decide) (fun K hK => ?_)
     refine goes_ Try.func36 (by kernel_rfl) rfl #[.int .i64 (wrap64 (x1_1 + 1))] (by rfl) rfl rfl mA ?_
     with_reducible refine (laws_markText.calls k1 (wrap64 (x1_1 + 1)) t465 _ A9.out).mono ?_
     rintro e w11 ⟨rfl, hb⟩
     refine ⟨_, rfl, ?_⟩
     replace HB := Aside0.mk (below_step hB hb)
     (try clear hb)
     (try clear hb2)
     (try clear hk)
     (try clear hi)
     refine hK.out _ _ ⟨(pw_cell_below HB.out hw464_0), (pw_cell_below HB.out hw464_1)⟩ (fun hHeld => ?_)
     clear hK K
     refine norm_ (a' := ?_) ?_ ?_
     rotate_left
     ·show Act.put _ (some 28) _ = _
      simp only [Act.put, sT, sZ, sS, i64_w, i32_w]
      rfl
     refine pU 7 29 (tf 8 0) ?_
     refine done_ (done_of HT_.out (by kernel_rfl)) ?_
     by_cases c12 : ((rd_T69 l0 x5_1).f1).toList = t465.toList
     ·rw [if_pos c12] at H
      obtain ⟨c12b0, c12b1⟩ := eqT c12
      clear c12
      (first | rw [c12b0] | (simp only [i64_w, i32_w]; rw [c12b0]) | skip)
      have H' := Aside0.mk H
      clear H
      go_wp2
      go_roundg k1
      case measure => have := HK1.out; omega
      case rel => exact ⟨(wrap64 ((wrap64 (x1_1 + 1)) + 1)), (wrap64 (x5_1 + 1)), rG, rG, H', ⟨by have := HK1.out; omega⟩, ⟨hB⟩⟩
     ·rw [if_neg c12] at H
      obtain ⟨c12b0, c12b1⟩ := eqF c12
      (first | rw [c12b0] | (simp only [i64_w, i32_w]; rw [c12b0]) | skip)
      obtain rfl := Option.some.inj H
      go_wp2
      go_ret
      exact ⟨rE, hB⟩
    ·rw [if_neg c8] at H
     obtain ⟨c8b0, c8b1⟩ := eqF c8
     (first | rw [c8b0] | (simp only [i64_w, i32_w]; rw [c8b0]) | skip)
     obtain rfl := Option.some.inj H
     go_wp2
     go_ret
     exact ⟨rE, hB⟩
   ·rw [if_neg c3] at H
    have c3b0 : decide (x5_1 < (l0.length : Int)) = false := decide_eq_false c3
    clear c3
    obtain rfl := Option.some.inj H
    go_wp2
    go_ret
    exact ⟨rE, hB⟩

/-! ### laws_heldAttrS: function 38 -/
def laws_heldAttrS.l0 : Nat → List (S71) → Int → Int → Option (Int)
 | 0, _, _, _ => none
 | k + 1, x0, x1, x5 => if x5 < (x0.length : Int) then (if 0 ≤ x5 then ((laws_markText.f k x1).bind fun t467 => (if ((rd_T71 x0 x5).f0).toList = t467.toList then ((laws_markText.f k (wrap64 (x1 + 1))).bind fun t469 => (if ((rd_T71 x0 x5).f1).toList = t469.toList then ((laws_markText.f k (wrap64 ((wrap64 (x1 + 1)) + 1))).bind fun t471 => (if ((rd_T71 x0 x5).f2).toList = t471.toList then ((laws_markText.f k (wrap64 ((wrap64 ((wrap64 (x1 + 1)) + 1)) + 1))).bind fun t473 => (if ((rd_T71 x0 x5).f3).toList = t473.toList then (laws_heldAttrS.l0 k x0 (wrap64 ((wrap64 ((wrap64 ((wrap64 (x1 + 1)) + 1)) + 1)) + 1)) (wrap64 (x5 + 1))) else (some (-1)))) else (some (-1)))) else (some (-1)))) else (some (-1)))) else (none)) else (some x1)
def laws_heldAttrS.f (k : Nat) (l0 : List (S71)) (a1 : Int) : Option (Int) := laws_heldAttrS.l0 k l0 a1 0
def laws_heldAttrS.T4 : Bool × List (List Nat × List Nat) := (true, [([], []), ([], []), ([0, 1], [0, 1]), ([2], [2]), ([3], [3]), ([], []), ([5], [5]), ([4, 6], [4, 6])])
def laws_heldAttrS.B4 : List Nat := [0, 0, 3, 7, 15, 0, 32, 127]
theorem laws_heldAttrS.tab4 : rtab .any (opsOf Try.f38 4) = laws_heldAttrS.T4 := by kernel_rfl
theorem laws_heldAttrS.bits4 : waitsOk laws_heldAttrS.T4.2 laws_heldAttrS.B4 = true := by kernel_rfl
def laws_heldAttrS.T7 : Bool × List (List Nat × List Nat) := (true, [([], []), ([], []), ([0, 1], [0, 1]), ([2], [2]), ([3], [3]), ([], []), ([5], [5]), ([4, 6], [4, 6])])
def laws_heldAttrS.B7 : List Nat := [0, 0, 3, 7, 15, 0, 32, 127]
theorem laws_heldAttrS.tab7 : rtab .any (opsOf Try.f38 7) = laws_heldAttrS.T7 := by kernel_rfl
theorem laws_heldAttrS.bits7 : waitsOk laws_heldAttrS.T7.2 laws_heldAttrS.B7 = true := by kernel_rfl
def laws_heldAttrS.T10 : Bool × List (List Nat × List Nat) := (true, [([], []), ([], []), ([0, 1], [0, 1]), ([2], [2]), ([3], [3]), ([], []), ([5], [5]), ([4, 6], [4, 6])])
def laws_heldAttrS.B10 : List Nat := [0, 0, 3, 7, 15, 0, 32, 127]
theorem laws_heldAttrS.tab10 : rtab .any (opsOf Try.f38 10) = laws_heldAttrS.T10 := by kernel_rfl
theorem laws_heldAttrS.bits10 : waitsOk laws_heldAttrS.T10.2 laws_heldAttrS.B10 = true := by kernel_rfl
def laws_heldAttrS.T13 : Bool × List (List Nat × List Nat) := (true, [([], []), ([], []), ([0, 1], [0, 1]), ([2], [2]), ([3], [3]), ([], []), ([5], [5]), ([4, 6], [4, 6])])
def laws_heldAttrS.B13 : List Nat := [0, 0, 3, 7, 15, 0, 32, 127]
theorem laws_heldAttrS.tab13 : rtab .any (opsOf Try.f38 13) = laws_heldAttrS.T13 := by kernel_rfl
theorem laws_heldAttrS.bits13 : waitsOk laws_heldAttrS.T13.2 laws_heldAttrS.B13 = true := by kernel_rfl
theorem laws_heldAttrS.calls (k : Nat) (A0 : Option Addr) (c0 : Nat) (l0 : List (S71)) (a1 : Int) (r : Int) (w : World) (hr0 : Kd.C k71 w A0 l0.length l0) (hc0 : l0.length ≤ c0) (h : laws_heldAttrS.f k l0 a1 = some r) :
  Calls Try.prog 38 #[.slice A0 l0.length c0, .int .i64 a1] w fun e w' => e = .returned (.int .i64 r) ∧ Below w.heap.size w w' := by
 have HR0 := Aside0.mk hr0
 have HC0 := Aside0.mk hc0
 clear hr0 hc0
 have HB := Aside0.mk (Below.refl w.heap.size w)
 have H : (laws_heldAttrS.l0 k l0 a1 0) = some r := h
 clear h
 have H' := Aside0.mk H
 clear H
 go_enter Try.func38, Try.ntmps38
 go_wp2
 go_loopg [1, 5] k (fun kq v1 v5 w' => ∃ (x1_1 : Int) (x5_1 : Int), v1 = .int .i64 x1_1 ∧ v5 = .int .i64 x5_1 ∧ Aside0 (laws_heldAttrS.l0 kq l0 x1_1 x5_1 = some r) ∧ Aside0 (kq ≤ k) ∧ Aside0 (Below w.heap.size w w'))
 case atStart => exact ⟨(a1), (0), rG, rG, H', ⟨Nat.le_refl _⟩, ⟨hB⟩⟩
 case round =>
  clear H'
  obtain ⟨x1_1, x5_1, rfl, rfl, HA, HK1, HB⟩ := hrel
  cases gk with
  | zero => exact absurd HA.out (by simp [laws_heldAttrS.l0])
  | succ k1 =>
   have H := HA.out
   clear HA
   simp only [laws_heldAttrS.l0] at H
   by_cases c3 : x5_1 < (l0.length : Int)
   ·rw [if_pos c3] at H
    have c3b0 : decide (x5_1 < (l0.length : Int)) = true := decide_eq_true c3
    clear c3
    obtain ⟨c4, H⟩ := if_som H
    have c4b0 : decide (0 ≤ x5_1) = true := decide_eq_true c4
    clear c4
    replace H := Option.bind_eq_some_iff.mp H
    obtain ⟨t467, A50, H⟩ := H
    try dsimp only at H
    have A5 := Aside0.mk A50
    clear A50
    try go_wp2
    replace HB := Aside0.mk (below_drew1 HB.out)
    have p466 : 0 ≤ (x5_1 : Int) := odt
    have q466 : x5_1 < (l0.length : Int) := odt
    obtain ⟨ad466, e466, hx466_0, hx466_1, hx466_2, hx466_3⟩ := at_T71 HR0.out x5_1 p466 q466
    have hw466_3 := hx466_3
    have hw466_2 := hx466_2
    have hw466_1 := hx466_1
    have hw466_0 := hx466_0
    cases e466
    replace hx466_0 := pw_cell_below HB.out hx466_0
    replace hx466_1 := pw_cell_below HB.out hx466_1
    replace hx466_2 := pw_cell_below HB.out hx466_2
    replace hx466_3 := pw_cell_below HB.out hx466_3
    replace p466 := eq_true p466
    replace q466 := eq_true q466
    refine start_ (n := 8) (S := fun w' => w'.cell? (ad466.add ((x5_1).toNat * 4)) = some (.string ((rd_T71 l0 x5_1).f0)) ∧ w'.cell? ⟨(ad466.add ((x5_1).toNat * 4)).block, (ad466.add ((x5_1).toNat * 4)).off + 1, none⟩ = some (.string ((rd_T71 l0 x5_1).f1)) ∧ w'.cell? ⟨(ad466.add ((x5_1).toNat * 4)).block, (ad466.add ((x5_1).toNat * 4)).off + 2, none⟩ = some (.string ((rd_T71 l0 x5_1).f2)) ∧ w'.cell? ⟨(ad466.add ((x5_1).toNat * 4)).block, (ad466.add ((x5_1).toNat * 4)).off + 3, none⟩ = some (.string ((rd_T71 l0 x5_1).f3))) (ds := []) #[false, false, false, false, false, false, false, false] (by kernel_rfl) rfl rfl ⟨(pw_cell_below HB.out hw466_0), (pw_cell_below HB.out hw466_1), (pw_cell_below HB.out hw466_2), (pw_cell_below HB.out hw466_3)⟩ (fun hHeld => ?_); refine with_tabW laws_heldAttrS.tab4 laws_heldAttrS.bits4 (fun HT_ HW_ => ?_)
    generalize wr.drew = w6 at HB hx466_0 hx466_1 hx466_2 hx466_3 hHeld ⊢
    refine pU 0 12 (tf 1 7) ?_
    refine pU 1 13 (tf 2 6) ?_
    refine pU 2 14 (tf 3 5) ?_
    refine pU 3 15 (tf 4 4) ?_
    refine pU 5 17 #[true, true, true, true, false, true, false, false] ?_
    refine take_ (i := 4) (N := some 16) (v := ?_) (a' := ?_) (tf 6 2) rfl rfl (take_ofW HT_.out HW_.out (by kernel_rfl)) (fun _ _ _ h => h) (Or.inl ⟨by rfl, ?_⟩) hHeld ?_ ?_
    rotate_left
    ·rintro w' ⟨s0, s1, s2, s3⟩
     go_simp
     with_reducible rfl
    rotate_left
    ·simp only [Act.put, sT, sZ, sS, i64_w, i32_w]
     rfl
    refine one_ (i := 6) (N := some 18) (tf 7 1) rfl rfl (one_of HT_.out (by kernel_rfl)) (by decide) (fun K hK => ?_)
    refine goes_ Try.func36 (by kernel_rfl) rfl #[.int .i64 x1_1] (by rfl) rfl rfl mA ?_
    with_reducible refine (laws_markText.calls k1 x1_1 t467 _ A5.out).mono ?_
    rintro e w7 ⟨rfl, hb⟩
    refine ⟨_, rfl, ?_⟩
    replace HB := Aside0.mk (below_step hB hb)
    (try clear hb)
    (try clear hb2)
    (try clear hk)
    (try clear hi)
    refine hK.out _ _ ⟨(pw_cell_below HB.out hw466_0), (pw_cell_below HB.out hw466_1), (pw_cell_below HB.out hw466_2), (pw_cell_below HB.out hw466_3)⟩ (fun hHeld => ?_)
    clear hK K
    refine norm_ (a' := ?_) ?_ ?_
    rotate_left
    ·show Act.put _ (some 18) _ = _
     simp only [Act.put, sT, sZ, sS, i64_w, i32_w]
     rfl
    refine pU 7 19 (tf 8 0) ?_
    refine done_ (done_of HT_.out (by kernel_rfl)) ?_
    by_cases c8 : ((rd_T71 l0 x5_1).f0).toList = t467.toList
    ·rw [if_pos c8] at H
     obtain ⟨c8b0, c8b1⟩ := eqT c8
     clear c8
     (first | rw [c8b0] | (simp only [i64_w, i32_w]; rw [c8b0]) | skip)
     replace H := Option.bind_eq_some_iff.mp H
     obtain ⟨t469, A90, H⟩ := H
     try dsimp only at H
     have A9 := Aside0.mk A90
     clear A90
     try go_wp2
     replace HB := Aside0.mk (below_drew1 HB.out)
     have p468 : 0 ≤ (x5_1 : Int) := odt
     have q468 : x5_1 < (l0.length : Int) := odt
     obtain ⟨ad468, e468, hx468_0, hx468_1, hx468_2, hx468_3⟩ := at_T71 HR0.out x5_1 p468 q468
     have hw468_3 := hx468_3
     have hw468_2 := hx468_2
     have hw468_1 := hx468_1
     have hw468_0 := hx468_0
     obtain rfl : ad466 = ad468 := (by injection e468)
     replace hx468_0 := pw_cell_below HB.out hx468_0
     replace hx468_1 := pw_cell_below HB.out hx468_1
     replace hx468_2 := pw_cell_below HB.out hx468_2
     replace hx468_3 := pw_cell_below HB.out hx468_3
     replace p468 := eq_true p468
     replace q468 := eq_true q468
     refine start_ (n := 8) (S := fun w' => w'.cell? (ad466.add ((x5_1).toNat * 4)) = some (.string ((rd_T71 l0 x5_1).f0)) ∧ w'.cell? ⟨(ad466.add ((x5_1).toNat * 4)).block, (ad466.add ((x5_1).toNat * 4)).off + 1, none⟩ = some (.string ((rd_T71 l0 x5_1).f1)) ∧ w'.cell? ⟨(ad466.add ((x5_1).toNat * 4)).block, (ad466.add ((x5_1).toNat * 4)).off + 2, none⟩ = some (.string ((rd_T71 l0 x5_1).f2)) ∧ w'.cell? ⟨(ad466.add ((x5_1).toNat * 4)).block, (ad466.add ((x5_1).toNat * 4)).off + 3, none⟩ = some (.string ((rd_T71 l0 x5_1).f3))) (ds := []) #[false, false, false, false, false, false, false, false] (by kernel_rfl) rfl rfl ⟨(pw_cell_below HB.out hw468_0), (pw_cell_below HB.out hw468_1), (pw_cell_below HB.out hw468_2), (pw_cell_below HB.out hw468_3)⟩ (fun hHeld => ?_); refine with_tabW laws_heldAttrS.tab7 laws_heldAttrS.bits7 (fun HT_ HW_ => ?_)
     generalize w7.drew = w10 at HB hx468_0 hx468_1 hx468_2 hx468_3 hHeld ⊢
     refine pU 0 22 (tf 1 7) ?_
     refine pU 1 23 (tf 2 6) ?_
     refine pU 2 24 (tf 3 5) ?_
     refine pU 3 25 (tf 4 4) ?_
     refine pU 5 27 #[true, true, true, true, false, true, false, false] ?_
     refine take_ (i := 4) (N := some 26) (v := ?_) (a' := ?_) (tf 6 2) rfl rfl (take_ofW HT_.out HW_.out (by kernel_rfl)) (fun _ _ _ h => h) (Or.inl ⟨by rfl, ?_⟩) hHeld ?_ ?_
     rotate_left
     ·rintro w' ⟨s0, s1, s2, s3⟩
      go_simp
      with_reducible rfl
     rotate_left
     ·simp only [Act.put, sT, sZ, sS, i64_w, i32_w]
      rfl
     refine one_ (i := 6) (N := some 28) (tf 7 1) rfl rfl (one_of HT_.out (by kernel_rfl)) (by decide) (fun K hK => ?_)
     refine goes_ Try.func36 (by kernel_rfl) rfl #[.int .i64 (wrap64 (x1_1 + 1))] (by rfl) rfl rfl mA ?_
     with_reducible refine (laws_markText.calls k1 (wrap64 (x1_1 + 1)) t469 _ A9.out).mono ?_
     rintro e w11 ⟨rfl, hb⟩
     refine ⟨_, rfl, ?_⟩
     replace HB := Aside0.mk (below_step hB hb)
     (try clear hb)
     (try clear hb2)
     (try clear hk)
     (try clear hi)
     refine hK.out _ _ ⟨(pw_cell_below HB.out hw468_0), (pw_cell_below HB.out hw468_1), (pw_cell_below HB.out hw468_2), (pw_cell_below HB.out hw468_3)⟩ (fun hHeld => ?_)
     clear hK K
     refine norm_ (a' := ?_) ?_ ?_
     rotate_left
     ·show Act.put _ (some 28) _ = _
      simp only [Act.put, sT, sZ, sS, i64_w, i32_w]
      rfl
     refine pU 7 29 (tf 8 0) ?_
     refine done_ (done_of HT_.out (by kernel_rfl)) ?_
     by_cases c12 : ((rd_T71 l0 x5_1).f1).toList = t469.toList
     ·rw [if_pos c12] at H
      obtain ⟨c12b0, c12b1⟩ := eqT c12
      clear c12
      (first | rw [c12b0] | (simp only [i64_w, i32_w]; rw [c12b0]) | skip)
      replace H := Option.bind_eq_some_iff.mp H
      obtain ⟨t471, A130, H⟩ := H
      try dsimp only at H
      have A13 := Aside0.mk A130
      clear A130
      try go_wp2
      replace HB := Aside0.mk (below_drew1 HB.out)
      have p470 : 0 ≤ (x5_1 : Int) := odt
      have q470 : x5_1 < (l0.length : Int) := odt
      obtain ⟨ad470, e470, hx470_0, hx470_1, hx470_2, hx470_3⟩ := at_T71 HR0.out x5_1 p470 q470
      have hw470_3 := hx470_3
      have hw470_2 := hx470_2
      have hw470_1 := hx470_1
      have hw470_0 := hx470_0
      obtain rfl : ad466 = ad470 := (by injection e470)
      replace hx470_0 := pw_cell_below HB.out hx470_0
      replace hx470_1 := pw_cell_below HB.out hx470_1
      replace hx470_2 := pw_cell_below HB.out hx470_2
      replace hx470_3 := pw_cell_below HB.out hx470_3
      replace p470 := eq_true p470
      replace q470 := eq_true q470
      refine start_ (n := 8) (S := fun w' => w'.cell? (ad466.add ((x5_1).toNat * 4)) = some (.string ((rd_T71 l0 x5_1).f0)) ∧ w'.cell? ⟨(ad466.add ((x5_1).toNat * 4)).block, (ad466.add ((x5_1).toNat * 4)).off + 1, none⟩ = some (.string ((rd_T71 l0 x5_1).f1)) ∧ w'.cell? ⟨(ad466.add ((x5_1).toNat * 4)).block, (ad466.add ((x5_1).toNat * 4)).off + 2, none⟩ = some (.string ((rd_T71 l0 x5_1).f2)) ∧ w'.cell? ⟨(ad466.add ((x5_1).toNat * 4)).block, (ad466.add ((x5_1).toNat * 4)).off + 3, none⟩ = some (.string ((rd_T71 l0 x5_1).f3))) (ds := []) #[false, false, false, false, false, false, false, false] (by kernel_rfl) rfl rfl ⟨(pw_cell_below HB.out hw470_0), (pw_cell_below HB.out hw470_1), (pw_cell_below HB.out hw470_2), (pw_cell_below HB.out hw470_3)⟩ (fun hHeld => ?_); refine with_tabW laws_heldAttrS.tab10 laws_heldAttrS.bits10 (fun HT_ HW_ => ?_)
      generalize w11.drew = w14 at HB hx470_0 hx470_1 hx470_2 hx470_3 hHeld ⊢
      refine pU 0 32 (tf 1 7) ?_
      refine pU 1 33 (tf 2 6) ?_
      refine pU 2 34 (tf 3 5) ?_
      refine pU 3 35 (tf 4 4) ?_
      refine pU 5 37 #[true, true, true, true, false, true, false, false] ?_
      refine take_ (i := 4) (N := some 36) (v := ?_) (a' := ?_) (tf 6 2) rfl rfl (take_ofW HT_.out HW_.out (by kernel_rfl)) (fun _ _ _ h => h) (Or.inl ⟨by rfl, ?_⟩) hHeld ?_ ?_
      rotate_left
      ·rintro w' ⟨s0, s1, s2, s3⟩
       go_simp
       with_reducible rfl
      rotate_left
      ·simp only [Act.put, sT, sZ, sS, i64_w, i32_w]
       rfl
      refine one_ (i := 6) (N := some 38) (tf 7 1) rfl rfl (one_of HT_.out (by kernel_rfl)) (by decide) (fun K hK => ?_)
      refine goes_ Try.func36 (by kernel_rfl) rfl #[.int .i64 (wrap64 ((wrap64 (x1_1 + 1)) + 1))] (by rfl) rfl rfl mA ?_
      with_reducible refine (laws_markText.calls k1 (wrap64 ((wrap64 (x1_1 + 1)) + 1)) t471 _ A13.out).mono ?_
      rintro e w15 ⟨rfl, hb⟩
      refine ⟨_, rfl, ?_⟩
      replace HB := Aside0.mk (below_step hB hb)
      (try clear hb)
      (try clear hb2)
      (try clear hk)
      (try clear hi)
      refine hK.out _ _ ⟨(pw_cell_below HB.out hw470_0), (pw_cell_below HB.out hw470_1), (pw_cell_below HB.out hw470_2), (pw_cell_below HB.out hw470_3)⟩ (fun hHeld => ?_)
      clear hK K
      refine norm_ (a' := ?_) ?_ ?_
      rotate_left
      ·show Act.put _ (some 38) _ = _
       simp only [Act.put, sT, sZ, sS, i64_w, i32_w]
       rfl
      refine pU 7 39 (tf 8 0) ?_
      refine done_ (done_of HT_.out (by kernel_rfl)) ?_
      by_cases c16 : ((rd_T71 l0 x5_1).f2).toList = t471.toList
      ·rw [if_pos c16] at H
       obtain ⟨c16b0, c16b1⟩ := eqT c16
       clear c16
       (first | rw [c16b0] | (simp only [i64_w, i32_w]; rw [c16b0]) | skip)
       replace H := Option.bind_eq_some_iff.mp H
       obtain ⟨t473, A170, H⟩ := H
       try dsimp only at H
       have A17 := Aside0.mk A170
       clear A170
       try go_wp2
       replace HB := Aside0.mk (below_drew1 HB.out)
       have p472 : 0 ≤ (x5_1 : Int) := odt
       have q472 : x5_1 < (l0.length : Int) := odt
       obtain ⟨ad472, e472, hx472_0, hx472_1, hx472_2, hx472_3⟩ := at_T71 HR0.out x5_1 p472 q472
       have hw472_3 := hx472_3
       have hw472_2 := hx472_2
       have hw472_1 := hx472_1
       have hw472_0 := hx472_0
       obtain rfl : ad466 = ad472 := (by injection e472)
       replace hx472_0 := pw_cell_below HB.out hx472_0
       replace hx472_1 := pw_cell_below HB.out hx472_1
       replace hx472_2 := pw_cell_below HB.out hx472_2
       replace hx472_3 := pw_cell_below HB.out hx472_3
       replace p472 := eq_true p472
       replace q472 := eq_true q472
       refine start_ (n := 8) (S := fun w' => w'.cell? (ad466.add ((x5_1).toNat * 4)) = some (.string ((rd_T71 l0 x5_1).f0)) ∧ w'.cell? ⟨(ad466.add ((x5_1).toNat * 4)).block, (ad466.add ((x5_1).toNat * 4)).off + 1, none⟩ = some (.string ((rd_T71 l0 x5_1).f1)) ∧ w'.cell? ⟨(ad466.add ((x5_1).toNat * 4)).block, (ad466.add ((x5_1).toNat * 4)).off + 2, none⟩ = some (.string ((rd_T71 l0 x5_1).f2)) ∧ w'.cell? ⟨(ad466.add ((x5_1).toNat * 4)).block, (ad466.add ((x5_1).toNat * 4)).off + 3, none⟩ = some (.string ((rd_T71 l0 x5_1).f3))) (ds := []) #[false, false, false, false, false, false, false, false] (by kernel_rfl) rfl rfl ⟨(pw_cell_below HB.out hw472_0), (pw_cell_below HB.out hw472_1), (pw_cell_below HB.out hw472_2), (pw_cell_below HB.out hw472_3)⟩ (fun hHeld => ?_); refine with_tabW laws_heldAttrS.tab13 laws_heldAttrS.bits13 (fun HT_ HW_ => ?_)
       generalize w15.drew = w18 at HB hx472_0 hx472_1 hx472_2 hx472_3 hHeld ⊢
       refine pU 0 42 (tf 1 7) ?_
       refine pU 1 43 (tf 2 6) ?_
       refine pU 2 44 (tf 3 5) ?_
       refine pU 3 45 (tf 4 4) ?_
       refine pU 5 47 #[true, true, true, true, false, true, false, false] ?_
       refine take_ (i := 4) (N := some 46) (v := ?_) (a' := ?_) (tf 6 2) rfl rfl (take_ofW HT_.out HW_.out (by kernel_rfl)) (fun _ _ _ h => h) (Or.inl ⟨by rfl, ?_⟩) hHeld ?_ ?_
       rotate_left
       ·rintro w' ⟨s0, s1, s2, s3⟩
        go_simp
        with_reducible rfl
       rotate_left
       ·simp only [Act.put, sT, sZ, sS, i64_w, i32_w]
        rfl
       refine one_ (i := 6) (N := some 48) (tf 7 1) rfl rfl (one_of HT_.out (by kernel_rfl)) (by decide) (fun K hK => ?_)
       refine goes_ Try.func36 (by kernel_rfl) rfl #[.int .i64 (wrap64 ((wrap64 ((wrap64 (x1_1 + 1)) + 1)) + 1))] (by rfl) rfl rfl mA ?_
       with_reducible refine (laws_markText.calls k1 (wrap64 ((wrap64 ((wrap64 (x1_1 + 1)) + 1)) + 1)) t473 _ A17.out).mono ?_
       rintro e w19 ⟨rfl, hb⟩
       refine ⟨_, rfl, ?_⟩
       replace HB := Aside0.mk (below_step hB hb)
       (try clear hb)
       (try clear hb2)
       (try clear hk)
       (try clear hi)
       refine hK.out _ _ ⟨(pw_cell_below HB.out hw472_0), (pw_cell_below HB.out hw472_1), (pw_cell_below HB.out hw472_2), (pw_cell_below HB.out hw472_3)⟩ (fun hHeld => ?_)
       clear hK K
       refine norm_ (a' := ?_) ?_ ?_
       rotate_left
       ·show Act.put _ (some 48) _ = _
        simp only [Act.put, sT, sZ, sS, i64_w, i32_w]
        rfl
       refine pU 7 49 (tf 8 0) ?_
       refine done_ (done_of HT_.out (by kernel_rfl)) ?_
       by_cases c20 : ((rd_T71 l0 x5_1).f3).toList = t473.toList
       ·rw [if_pos c20] at H
        obtain ⟨c20b0, c20b1⟩ := eqT c20
        clear c20
        (first | rw [c20b0] | (simp only [i64_w, i32_w]; rw [c20b0]) | skip)
        have H' := Aside0.mk H
        clear H
        go_wp2
        go_roundg k1
        case measure => have := HK1.out; omega
        case rel => exact ⟨(wrap64 ((wrap64 ((wrap64 ((wrap64 (x1_1 + 1)) + 1)) + 1)) + 1)), (wrap64 (x5_1 + 1)), rG, rG, H', ⟨by have := HK1.out; omega⟩, ⟨hB⟩⟩
       ·rw [if_neg c20] at H
        obtain ⟨c20b0, c20b1⟩ := eqF c20
        (first | rw [c20b0] | (simp only [i64_w, i32_w]; rw [c20b0]) | skip)
        obtain rfl := Option.some.inj H
        go_wp2
        go_ret
        exact ⟨rE, hB⟩
      ·rw [if_neg c16] at H
       obtain ⟨c16b0, c16b1⟩ := eqF c16
       (first | rw [c16b0] | (simp only [i64_w, i32_w]; rw [c16b0]) | skip)
       obtain rfl := Option.some.inj H
       go_wp2
       go_ret
       exact ⟨rE, hB⟩
     ·rw [if_neg c12] at H
      obtain ⟨c12b0, c12b1⟩ := eqF c12
      (first | rw [c12b0] | (simp only [i64_w, i32_w]; rw [c12b0]) | skip)
      obtain rfl := Option.some.inj H
      go_wp2
      go_ret
      exact ⟨rE, hB⟩
    ·rw [if_neg c8] at H
     obtain ⟨c8b0, c8b1⟩ := eqF c8
     (first | rw [c8b0] | (simp only [i64_w, i32_w]; rw [c8b0]) | skip)
     obtain rfl := Option.some.inj H
     go_wp2
     go_ret
     exact ⟨rE, hB⟩
   ·rw [if_neg c3] at H
    have c3b0 : decide (x5_1 < (l0.length : Int)) = false := decide_eq_false c3
    clear c3
    obtain rfl := Option.some.inj H
    go_wp2
    go_ret
    exact ⟨rE, hB⟩

end Go.Proofs.Ytglmahgliihkaaa.PY
