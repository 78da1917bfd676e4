-- Written by the session's program hprint.py, over the kit's print program. Lean checks it.
import Derived.Test.YtlfjdaoibjjakaaGreatDoorPTx0
import Derived.Test.YtlfjdaoibjjakaaGreatDoorPTx10
import Derived.Test.YtlfjdaoibjjakaaGreatDoorPTx11
import Derived.Test.YtlfjdaoibjjakaaGreatDoorPTx12
import Derived.Test.YtlfjdaoibjjakaaGreatDoorPTx13
namespace Go.Proofs.YtlfjdaoibjjakaaGreatDoor.PT
open Go.RowKit Go.Proofs.YtlfjdaoibjjakaaGreatDoorW.PrintWords Go.Proofs.YtlfjdaoibjjakaaGreatDoorW.PrintLast Go.Proofs.YtlfjdaoibjjakaaGreatDoorW.PrintMore
attribute [local go_sem] max2_int min2_int max_two min_two max_three min_three max_four min_four   -- for this text's walks alone
set_option linter.unusedVariables false
set_option linter.unusedSimpArgs false
set_option maxHeartbeats 8000000
set_option maxRecDepth 100000

/-! ### impl_kidsOk: function 55 -/
def impl_kidsOk.and2 (x y : Option Bool) : Option Bool := x.bind fun t => if t = true then y else some false
theorem impl_kidsOk.and2_elim {x y : Option Bool} {r : Bool} (h : impl_kidsOk.and2 x y = some r) : ∃ t, x = some t ∧ (t = true → y = some r) ∧ (t = false → r = false) := by
  obtain ⟨t, ht, h⟩ := Option.bind_eq_some_iff.1 h
  refine ⟨t, ht, ?_, ?_⟩ <;> rintro rfl <;> simp at h <;> simp [h]
theorem impl_kidsOk.and2_mono {x y x' y' : Option Bool} (hx : LeO x x') (hy : LeO y y') : LeO (impl_kidsOk.and2 x y) (impl_kidsOk.and2 x' y') := LeO.bind hx (fun _ => LeO.ite hy (LeO.refl _))
def impl_kidsOk.kids (G : Int → ByteArray → ByteArray → ByteArray → List S80 → List S75 → List S33 → ByteArray → Int → Option Bool) (k : Nat) (l : List S33) (d : Int) : Option Bool :=
  impl_kidsOk.and2 (impl_noTwoTexts.f k l) ((impl_Node_62.any (fun x => (G x.f0 x.f1 x.f2 x.f3 x.f4 x.f5 x.f6 x.f7 d).map not) l).map not)
def impl_kidsOk.part : Nat → Int → ByteArray → ByteArray → ByteArray → List S80 → List S75 → List S33 → ByteArray → Int → Option Bool
  | 0, _, _, _, _, _, _, _, _, _ => none
  | k + 1, a0_0, a0_1, a0_2, a0_3, l0_4, l0_5, l0_6, a0_7, a1 =>
    if a0_0 = 1 then (if 7 ≤ a1 then some false else if a0_7.toList = [] then impl_kidsOk.and2 (impl_preOk.f k a0_1) (impl_kidsOk.and2 (impl_uriOk.f k a0_3 a0_1) (impl_kidsOk.and2 (impl_PlainOk.f k a0_2) (impl_kidsOk.and2 (impl_DeclsOk.f k l0_4) (impl_kidsOk.and2 (impl_attrsOk.f k l0_5) (impl_kidsOk.kids (impl_kidsOk.part k) k l0_6 (wrap64 (a1 + 1))))))) else some false)
    else impl_leafOk.f k a0_0 a0_1 a0_2 a0_3 l0_4 l0_5 l0_6 a0_7
theorem impl_kidsOk.kids_mono {G G' : Int → ByteArray → ByteArray → ByteArray → List S80 → List S75 → List S33 → ByteArray → Int → Option Bool} (hG : ∀ a b c d e f g h i, LeO (G a b c d e f g h i) (G' a b c d e f g h i)) (k : Nat) (l : List S33) (d : Int) : LeO (impl_kidsOk.kids G k l d) (impl_kidsOk.kids G' (k + 1) l d) :=
  impl_kidsOk.and2_mono (impl_noTwoTexts.mono l k) (LeO.map _ (impl_Node_62.mono _ _ (fun x => LeO.map _ (hG x.f0 x.f1 x.f2 x.f3 x.f4 x.f5 x.f6 x.f7 d)) _))
theorem impl_kidsOk.part_mono : ∀ k a0_0 a0_1 a0_2 a0_3 l0_4 l0_5 l0_6 a0_7 a1, LeO (impl_kidsOk.part k a0_0 a0_1 a0_2 a0_3 l0_4 l0_5 l0_6 a0_7 a1) (impl_kidsOk.part (k + 1) a0_0 a0_1 a0_2 a0_3 l0_4 l0_5 l0_6 a0_7 a1)
  | 0, _, _, _, _, _, _, _, _, _ => fun r h => by simp [impl_kidsOk.part] at h
  | k + 1, a0_0, a0_1, a0_2, a0_3, l0_4, l0_5, l0_6, a0_7, a1 => by
    simp only [impl_kidsOk.part]
    exact LeO.ite (LeO.ite (LeO.refl _) (LeO.ite (impl_kidsOk.and2_mono (impl_preOk.mono _ _) (impl_kidsOk.and2_mono (impl_uriOk.mono _ _ _) (impl_kidsOk.and2_mono (impl_PlainOk.mono _ _) (impl_kidsOk.and2_mono (impl_DeclsOk.mono _ _) (impl_kidsOk.and2_mono (impl_attrsOk.mono _ _) (impl_kidsOk.kids_mono (impl_kidsOk.part_mono k) k l0_6 _)))))) (LeO.refl _))) (impl_leafOk.mono _ _ _ _ _ _ _ _ _)
set_option maxRecDepth 100000 in
set_option maxHeartbeats 1000000 in
theorem impl_kidsOk.lit (b : Bool) (x : S33) (A4 A5 A6 : Option Addr) (c4 c5 c6 : Nat) (d : Int) (B : Nat) (W : World) (hc : W.cell? ⟨B, 0, none⟩ = some (.int .i64 d))
    (hC : ∀ W1, Below W.heap.size W W1 → Calls Tryz.prog 53 #[.agg #[.int .i64 x.f0, .string x.f1, .string x.f2, .string x.f3, .slice A4 x.f4.length c4, .slice A5 x.f5.length c5, .slice A6 x.f6.length c6, .string x.f7], .int .i64 d] W1 fun e w' => e = .returned (.bool b) ∧ Below W1.heap.size W1 w') :
    Calls Tryz.prog 95 #[.agg #[.int .i64 x.f0, .string x.f1, .string x.f2, .string x.f3, .slice A4 x.f4.length c4, .slice A5 x.f5.length c5, .slice A6 x.f6.length c6, .string x.f7], .pointer (some ⟨B, 0, none⟩)] W
      fun e w' => e = .returned (.bool (!b)) ∧ Below W.heap.size W w' := by
  have hu := Tryz.underlying33
  have hlt : B < W.heap.size := World.block_lt_of_cell? W _ hc
  have HC := Aside0.mk hC
  clear hC
  generalize x.f4.length = n4 at HC ⊢
  generalize x.f5.length = n5 at HC ⊢
  generalize x.f6.length = n6 at HC ⊢
  go_enter Tryz.func95, Tryz.ntmps95
  go_wp2_with (go_at_call 53; refine (HC.out _ (below_alloc (Below.refl _ _) _)).mono ?_; rintro e w' ⟨rfl, hb⟩)
  go_ret
  exact ⟨rfl, below_then (below_alloc (Below.refl _ _) _) (by simp) hb⟩
set_option maxRecDepth 100000 in
set_option maxHeartbeats 4000000 in
theorem impl_kidsOk.callsF (G : Int → ByteArray → ByteArray → ByteArray → List S80 → List S75 → List S33 → ByteArray → Int → Option Bool)
    (hG : ∀ (a0_0 : Int) (a0_1 a0_2 a0_3 : ByteArray) (A0_4 : Option Addr) (c0_4 : Nat) (l0_4 : List S80) (A0_5 : Option Addr) (c0_5 : Nat) (l0_5 : List S75) (A0_6 : Option Addr) (c0_6 : Nat) (l0_6 : List S33) (a0_7 : ByteArray) (a1 : Int) (r : Bool) (w : World) (hr0_4 : Kd.C k80 w A0_4 l0_4.length l0_4) (hc0_4 : l0_4.length ≤ c0_4) (hr0_5 : Kd.C k75 w A0_5 l0_5.length l0_5) (hc0_5 : l0_5.length ≤ c0_5) (hr0_6 : Kd.C k33 w A0_6 l0_6.length l0_6) (hc0_6 : l0_6.length ≤ c0_6) (hTab : Tabs w) (h : G a0_0 a0_1 a0_2 a0_3 l0_4 l0_5 l0_6 a0_7 a1 = some r),
      Calls Tryz.prog 53 #[.agg #[.int .i64 a0_0, .string a0_1, .string a0_2, .string a0_3, .slice A0_4 l0_4.length c0_4, .slice A0_5 l0_5.length c0_5, .slice A0_6 l0_6.length c0_6, .string a0_7], .int .i64 a1] w fun e w' => e = .returned (.bool r) ∧ Below w.heap.size w w')
    (k : Nat) (a0_0 : Int) (a0_1 a0_2 a0_3 : ByteArray) (A0_4 : Option Addr) (n0_4 c0_4 : Nat) (A0_5 : Option Addr) (n0_5 c0_5 : Nat) (A0_6 : Option Addr) (c0_6 : Nat) (l0_6 : List S33) (a0_7 : ByteArray) (a1 : Int) (r : Bool) (w : World) (hr0_6 : Kd.C k33 w A0_6 l0_6.length l0_6) (hc0_6 : l0_6.length ≤ c0_6) (hTab : Tabs w) (h : impl_kidsOk.kids G k l0_6 a1 = some r) :
    Calls Tryz.prog 55 #[.agg #[.int .i64 a0_0, .string a0_1, .string a0_2, .string a0_3, .slice A0_4 n0_4 c0_4, .slice A0_5 n0_5 c0_5, .slice A0_6 l0_6.length c0_6, .string a0_7], .int .i64 a1] w fun e w' => e = .returned (.bool r) ∧ Below w.heap.size w w' := by
  obtain ⟨t, ht, hT, hFl⟩ := impl_kidsOk.and2_elim h
  have hA := fun (W : World) (hW : Below w.heap.size w W) => impl_noTwoTexts.calls k A0_6 c0_6 l0_6 t W (Kd.C_below hr0_6 hW) hc0_6 ht
  have hu := Tryz.underlying33
  have HA := Aside0.mk hA
  cases t with
  | false =>
    have hr := hFl rfl
    subst hr
    clear hT hFl hA ht hr0_6 hc0_6 hG h
    go_enter Tryz.func55, Tryz.ntmps55
    go_wp2_with (go_at_call 94; refine (HA.out _ ?a1).mono ?_; (case a1 => exact below_alloc (below_alloc (Below.refl _ _) _) _); rintro e w' ⟨rfl, hb⟩; have hB := below_then (below_alloc (below_alloc (Below.refl w.heap.size w) _) _) (by simp; omega) hb)
    go_ret
    exact ⟨rfl, hB⟩
  | true =>
    obtain ⟨q, hq, rfl⟩ := Option.map_eq_some_iff.1 (hT rfl)
    have hN := fun (W : World) (B : Nat) (hW : Below w.heap.size w W) (hc : W.cell? ⟨B, 0, none⟩ = some (.int .i64 a1)) =>
      impl_Node_62.calls (fun x => (G x.f0 x.f1 x.f2 x.f3 x.f4 x.f5 x.f6 x.f7 a1).map not) 95 #[.pointer (some ⟨B, 0, none⟩)] (enters_of Tryz.func95 (by kernel_rfl) rfl) A0_6 c0_6 l0_6 q W
        (fun W2 x v b hx hp hv hb2 => by
          obtain ⟨b', hp', rfl⟩ := Option.map_eq_some_iff.1 hp
          obtain ⟨E4, e4, E5, e5, E6, e6, rfl, q4, r4, q5, r5, q6, r6⟩ := hv
          exact impl_kidsOk.lit b' x _ _ _ _ _ _ a1 B W2 (pw_cell_below hb2 hc) (fun W3 hW3 => hG _ _ _ _ _ _ _ _ _ _ _ _ _ _ a1 b' W3 (Kd.C_below r4 hW3) q4 (Kd.C_below r5 hW3) q5 (Kd.C_below r6 hW3) q6 (hTab.below (hW.trans (((hb2.mono hW.size)).trans (hW3.mono (Nat.le_trans hW.size hb2.size))))) hp')) (Kd.C_below hr0_6 hW) hq
    have HN := Aside0.mk hN
    clear hT hFl hA hN ht hr0_6 hc0_6 hG h hq
    go_enter Tryz.func55, Tryz.ntmps55
    go_wp2_with (first | (go_at_call 94; refine (HA.out _ ?a1).mono ?_; (case a1 => exact below_alloc (below_alloc (Below.refl _ _) _) _); rintro e w' ⟨rfl, hb⟩; have hB := below_then (below_alloc (below_alloc (Below.refl w.heap.size w) _) _) (by simp; omega) hb; have HB := Aside0.mk hB; have hk0 := pw_cell_below hb (show World.cell? ((w.alloc (.cells #[.int .i64 a0_0, .string a0_1, .string a0_2, .string a0_3, .slice A0_4 n0_4 c0_4, .slice A0_5 n0_5 c0_5, .slice A0_6 l0_6.length c0_6, .string a0_7] 33)).alloc (.cells #[.int .i64 a1] 3)) ⟨w.heap.size, 6, none⟩ = some (.slice A0_6 l0_6.length c0_6) from by rw [World.cell?_alloc_past _ _ _ (by simp), World.cell?_alloc_at _ _ _ _ rfl]; rfl); have hk1 := pw_cell_below hb (show World.cell? ((w.alloc (.cells #[.int .i64 a0_0, .string a0_1, .string a0_2, .string a0_3, .slice A0_4 n0_4 c0_4, .slice A0_5 n0_5 c0_5, .slice A0_6 l0_6.length c0_6, .string a0_7] 33)).alloc (.cells #[.int .i64 a1] 3)) ⟨w.heap.size + 1, 0, none⟩ = some (.int .i64 a1) from by rw [World.cell?_alloc_at _ _ _ _ (by simp)]; rfl)) | (go_at_call 62; refine (HN.out _ _ HB.out hk1).mono ?_; rintro e w2 ⟨rfl, hb2⟩))
    go_ret
    exact ⟨rfl, HB.out.trans (hb2.mono HB.out.size)⟩
set_option maxRecDepth 100000 in
set_option maxHeartbeats 4000000 in
theorem impl_kidsOk.part_calls (k : Nat) : ∀ (a0_0 : Int) (a0_1 a0_2 a0_3 : ByteArray) (A0_4 : Option Addr) (c0_4 : Nat) (l0_4 : List S80) (A0_5 : Option Addr) (c0_5 : Nat) (l0_5 : List S75) (A0_6 : Option Addr) (c0_6 : Nat) (l0_6 : List S33) (a0_7 : ByteArray) (a1 : Int) (r : Bool) (w : World) (hr0_4 : Kd.C k80 w A0_4 l0_4.length l0_4) (hc0_4 : l0_4.length ≤ c0_4) (hr0_5 : Kd.C k75 w A0_5 l0_5.length l0_5) (hc0_5 : l0_5.length ≤ c0_5) (hr0_6 : Kd.C k33 w A0_6 l0_6.length l0_6) (hc0_6 : l0_6.length ≤ c0_6) (hTab : Tabs w) (h : impl_kidsOk.part k a0_0 a0_1 a0_2 a0_3 l0_4 l0_5 l0_6 a0_7 a1 = some r),
    Calls Tryz.prog 53 #[.agg #[.int .i64 a0_0, .string a0_1, .string a0_2, .string a0_3, .slice A0_4 l0_4.length c0_4, .slice A0_5 l0_5.length c0_5, .slice A0_6 l0_6.length c0_6, .string a0_7], .int .i64 a1] w fun e w' => e = .returned (.bool r) ∧ Below w.heap.size w w' := by
  induction k with
  | zero => intro a0_0 a0_1 a0_2 a0_3 A0_4 c0_4 l0_4 A0_5 c0_5 l0_5 A0_6 c0_6 l0_6 a0_7 a1 r w hr0_4 hc0_4 hr0_5 hc0_5 hr0_6 hc0_6 hTab h; exact absurd h (by simp [impl_kidsOk.part])
  | succ k ih =>
  intro a0_0 a0_1 a0_2 a0_3 A0_4 c0_4 l0_4 A0_5 c0_5 l0_5 A0_6 c0_6 l0_6 a0_7 a1 r w hr0_4 hc0_4 hr0_5 hc0_5 hr0_6 hc0_6 hTab h
  simp only [impl_kidsOk.part] at h
  have hu := Tryz.underlying33
  have HR := Aside0.mk (And.intro hr0_4 (And.intro hr0_5 hr0_6))
  have HQ := Aside0.mk (And.intro hc0_4 (And.intro hc0_5 hc0_6))
  have HT := Aside0.mk hTab
  have IH := Aside0.mk (impl_kidsOk.callsF (impl_kidsOk.part k) ih k)
  clear hr0_4 hc0_4 hr0_5 hc0_5 hr0_6 hc0_6 hTab ih
  generalize hn4 : l0_4.length = n4 at HQ ⊢
  generalize hn5 : l0_5.length = n5 at HQ ⊢
  have HN := Aside0.mk (And.intro hn4 hn5)
  clear hn4 hn5
  by_cases c1 : a0_0 = 1
  · rw [if_pos c1] at h
    subst c1
    by_cases c2 : 7 ≤ a1
    · rw [if_pos c2] at h
      cases h
      have c2b := decide_eq_true c2
      clear HR HQ HT IH HN
      go_enter Tryz.func53, Tryz.ntmps53
      go_wp2
      go_ret
      exact ⟨rfl, below_alloc (Below.refl _ _) _⟩
    · rw [if_neg c2] at h
      have c2b := decide_eq_false c2
      by_cases c3 : a0_7.toList = []
      · rw [if_pos c3] at h
        have c3b : (a0_7.toList == ([] : List UInt8)) = true := beq_iff_eq.2 c3
        have c3c : (a0_7.toList != ([] : List UInt8)) = false := bne_eq_false_iff_eq.2 c3
        have H := Aside0.mk h
        clear h
        go_enter Tryz.func53, Tryz.ntmps53
        go_wp2_with (first
          | ((with_reducible refine gate_dst (N := 2) rfl ?_); refine box_event ?hg (N := 2) ?hd (cs := #[.int .i64 1, .string a0_1, .string a0_2, .string a0_3, .slice A0_4 n4 c0_4, .slice A0_5 n5 c0_5, .slice A0_6 l0_6.length c0_6, .string a0_7]) (t := 33) ?hr ?_; (case hd => rfl); (case hg => rfl); (case hr => first | (go_simp; done) | (go_simp; rfl)); intro gb hg w1 hbox hb; have HB := Aside0.mk (show Below w.heap.size w w1 from hb); have BK := Aside0.mk hbox; clear hb hbox hg; obtain ⟨hz0, hz1, hz2, hz3, hz4, hz5, hz6, hz7⟩ := bc8 BK.out)
          | (go_at_call 89; obtain ⟨t, ht, hT, hFl⟩ := impl_kidsOk.and2_elim H.out; refine (impl_preOk.calls k a0_1 t _ (HT.out.below HB.out) ht).mono ?_; rintro e w2 ⟨rfl, hb⟩; replace BK := Aside0.mk (blk_below BK.out hb); replace HB := Aside0.mk (below_step HB.out hb); clear hb ht; obtain ⟨hz0, hz1, hz2, hz3, hz4, hz5, hz6, hz7⟩ := bc8 BK.out; (rcases Bool.eq_false_or_eq_true t with q_ | q_ <;> subst q_ <;> first | (replace H := Aside0.mk (hT rfl); clear hT hFl) | (have hr_ := hFl rfl; subst hr_; clear hT hFl)))
          | (go_at_call 90; obtain ⟨t, ht, hT, hFl⟩ := impl_kidsOk.and2_elim H.out; refine (impl_uriOk.calls k a0_3 a0_1 t _ (HT.out.below HB.out) ht).mono ?_; rintro e w2 ⟨rfl, hb⟩; replace BK := Aside0.mk (blk_below BK.out hb); replace HB := Aside0.mk (below_step HB.out hb); clear hb ht; obtain ⟨hz0, hz1, hz2, hz3, hz4, hz5, hz6, hz7⟩ := bc8 BK.out; (rcases Bool.eq_false_or_eq_true t with q_ | q_ <;> subst q_ <;> first | (replace H := Aside0.mk (hT rfl); clear hT hFl) | (have hr_ := hFl rfl; subst hr_; clear hT hFl)))
          | (go_at_call 91; obtain ⟨t, ht, hT, hFl⟩ := impl_kidsOk.and2_elim H.out; refine (impl_PlainOk.calls k a0_2 t _ (HT.out.below HB.out) ht).mono ?_; rintro e w2 ⟨rfl, hb⟩; replace BK := Aside0.mk (blk_below BK.out hb); replace HB := Aside0.mk (below_step HB.out hb); clear hb ht; obtain ⟨hz0, hz1, hz2, hz3, hz4, hz5, hz6, hz7⟩ := bc8 BK.out; (rcases Bool.eq_false_or_eq_true t with q_ | q_ <;> subst q_ <;> first | (replace H := Aside0.mk (hT rfl); clear hT hFl) | (have hr_ := hFl rfl; subst hr_; clear hT hFl)))
          | (go_at_call 92; obtain ⟨t, ht, hT, hFl⟩ := impl_kidsOk.and2_elim H.out; have hX := impl_DeclsOk.calls k A0_4 c0_4 l0_4 t _ (Kd.C_below HR.out.1 HB.out) (HN.out.1 ▸ HQ.out.1) (HT.out.below HB.out) ht; rw [HN.out.1] at hX; refine hX.mono ?_; rintro e w2 ⟨rfl, hb⟩; replace BK := Aside0.mk (blk_below BK.out hb); replace HB := Aside0.mk (below_step HB.out hb); clear hb ht hX; obtain ⟨hz0, hz1, hz2, hz3, hz4, hz5, hz6, hz7⟩ := bc8 BK.out; (rcases Bool.eq_false_or_eq_true t with q_ | q_ <;> subst q_ <;> first | (replace H := Aside0.mk (hT rfl); clear hT hFl) | (have hr_ := hFl rfl; subst hr_; clear hT hFl)))
          | (go_at_call 93; obtain ⟨t, ht, hT, hFl⟩ := impl_kidsOk.and2_elim H.out; have hX := impl_attrsOk.calls k A0_5 c0_5 l0_5 t _ (Kd.C_below HR.out.2.1 HB.out) (HN.out.2 ▸ HQ.out.2.1) (HT.out.below HB.out) ht; rw [HN.out.2] at hX; refine hX.mono ?_; rintro e w2 ⟨rfl, hb⟩; replace BK := Aside0.mk (blk_below BK.out hb); replace HB := Aside0.mk (below_step HB.out hb); clear hb ht hX; obtain ⟨hz0, hz1, hz2, hz3, hz4, hz5, hz6, hz7⟩ := bc8 BK.out; (rcases Bool.eq_false_or_eq_true t with q_ | q_ <;> subst q_ <;> first | (replace H := Aside0.mk (hT rfl); clear hT hFl) | (have hr_ := hFl rfl; subst hr_; clear hT hFl)))
          | (go_at_call 55; refine (IH.out 1 a0_1 a0_2 a0_3 A0_4 n4 c0_4 A0_5 n5 c0_5 A0_6 c0_6 l0_6 a0_7 (wrap64 (a1 + 1)) r _ (Kd.C_below HR.out.2.2 HB.out) HQ.out.2.2 (HT.out.below HB.out) H.out).mono ?_; rintro e w2 ⟨rfl, hb⟩; replace HB := Aside0.mk (below_step HB.out hb)))
        all_goals
          go_ret
          exact ⟨rfl, HB.out⟩
      · rw [if_neg c3] at h
        cases h
        have c3b : (a0_7.toList == ([] : List UInt8)) = false := beq_eq_false_iff_ne.2 c3
        have c3c : (a0_7.toList != ([] : List UInt8)) = true := bne_iff_ne.2 c3
        clear HR HQ HT IH HN
        go_enter Tryz.func53, Tryz.ntmps53
        go_wp2
        go_ret
        exact ⟨rfl, below_alloc (Below.refl _ _) _⟩
  · rw [if_neg c1] at h
    have c1b : (a0_0 != 1) = true := bne_iff_ne.2 c1
    have c1c : (a0_0 == 1) = false := beq_eq_false_iff_ne.2 c1
    have hX := fun (W : World) (hW : Below w.heap.size w W) => impl_leafOk.calls k a0_0 a0_1 a0_2 a0_3 A0_4 c0_4 l0_4 A0_5 c0_5 l0_5 A0_6 c0_6 l0_6 a0_7 r W (Kd.C_below HR.out.1 hW) (HN.out.1 ▸ HQ.out.1) (Kd.C_below HR.out.2.1 hW) (HN.out.2 ▸ HQ.out.2.1) (Kd.C_below HR.out.2.2 hW) HQ.out.2.2 (HT.out.below hW) h
    rw [HN.out.1, HN.out.2] at hX
    have HX := Aside0.mk hX
    clear hX h IH
    go_enter Tryz.func53, Tryz.ntmps53
    go_wp2_with (go_at_call 88; refine (HX.out _ ?a1).mono ?_; (case a1 => exact below_alloc (Below.refl _ _) _); rintro e w' ⟨rfl, hb⟩; have hB := below_then (below_alloc (Below.refl w.heap.size w) _) (by simp) hb)
    go_ret
    exact ⟨rfl, hB⟩
def impl_kidsOk.f (k : Nat) (a0_0 : Int) (a0_1 a0_2 a0_3 : ByteArray) (l0_4 : List S80) (l0_5 : List S75) (l0_6 : List S33) (a0_7 : ByteArray) (a1 : Int) : Option Bool := impl_kidsOk.kids (impl_kidsOk.part k) k l0_6 a1
theorem impl_kidsOk.calls (k : Nat) (a0_0 : Int) (a0_1 : ByteArray) (a0_2 : ByteArray) (a0_3 : ByteArray) (A0_4 : Option Addr) (c0_4 : Nat) (l0_4 : List S80) (A0_5 : Option Addr) (c0_5 : Nat) (l0_5 : List S75) (A0_6 : Option Addr) (c0_6 : Nat) (l0_6 : List S33) (a0_7 : ByteArray) (a1 : Int) (r : Bool) (w : World) (_ : Kd.C k80 w A0_4 l0_4.length l0_4) (_ : l0_4.length ≤ c0_4) (_ : Kd.C k75 w A0_5 l0_5.length l0_5) (_ : l0_5.length ≤ c0_5) (hr0_6 : Kd.C k33 w A0_6 l0_6.length l0_6) (hc0_6 : l0_6.length ≤ c0_6) (hTab : Tabs w) (h : impl_kidsOk.f k a0_0 a0_1 a0_2 a0_3 l0_4 l0_5 l0_6 a0_7 a1 = some r) :
    Calls Tryz.prog 55 #[.agg #[.int .i64 a0_0, .string a0_1, .string a0_2, .string a0_3, .slice A0_4 l0_4.length c0_4, .slice A0_5 l0_5.length c0_5, .slice A0_6 l0_6.length c0_6, .string a0_7], .int .i64 a1] w fun e w' => e = .returned (.bool r) ∧ Below w.heap.size w w' :=
  impl_kidsOk.callsF (impl_kidsOk.part k) (impl_kidsOk.part_calls k) k a0_0 a0_1 a0_2 a0_3 A0_4 _ c0_4 A0_5 _ c0_5 A0_6 c0_6 l0_6 a0_7 a1 r w hr0_6 hc0_6 hTab h

/-! ### impl_partOk: function 53 -/
def impl_partOk.f := impl_kidsOk.part
theorem impl_partOk.calls (k : Nat) (a0_0 : Int) (a0_1 : ByteArray) (a0_2 : ByteArray) (a0_3 : ByteArray) (A0_4 : Option Addr) (c0_4 : Nat) (l0_4 : List S80) (A0_5 : Option Addr) (c0_5 : Nat) (l0_5 : List S75) (A0_6 : Option Addr) (c0_6 : Nat) (l0_6 : List S33) (a0_7 : ByteArray) (a1 : Int) (r : Bool) (w : World) (hr0_4 : Kd.C k80 w A0_4 l0_4.length l0_4) (hc0_4 : l0_4.length ≤ c0_4) (hr0_5 : Kd.C k75 w A0_5 l0_5.length l0_5) (hc0_5 : l0_5.length ≤ c0_5) (hr0_6 : Kd.C k33 w A0_6 l0_6.length l0_6) (hc0_6 : l0_6.length ≤ c0_6) (hTab : Tabs w) (h : impl_partOk.f k a0_0 a0_1 a0_2 a0_3 l0_4 l0_5 l0_6 a0_7 a1 = some r) :
    Calls Tryz.prog 53 #[.agg #[.int .i64 a0_0, .string a0_1, .string a0_2, .string a0_3, .slice A0_4 l0_4.length c0_4, .slice A0_5 l0_5.length c0_5, .slice A0_6 l0_6.length c0_6, .string a0_7], .int .i64 a1] w fun e w' => e = .returned (.bool r) ∧ Below w.heap.size w w' :=
  impl_kidsOk.part_calls k a0_0 a0_1 a0_2 a0_3 A0_4 c0_4 l0_4 A0_5 c0_5 l0_5 A0_6 c0_6 l0_6 a0_7 a1 r w hr0_4 hc0_4 hr0_5 hc0_5 hr0_6 hc0_6 hTab h

/-! ### impl_ofKind: function 54 -/
def impl_ofKind.l0 : Nat → Int → Int → List (S33) → Int → Int → Option (Int)
 | 0, _, _, _, _, _ => none
 | k + 1, x1, x5, x8, x9, x10 => if x10 < x9 then (if 0 ≤ x10 then (if x10 < (x8.length : Int) then (if ((rd_T33 x8 x10).f0) = x1 then (impl_ofKind.l0 k x1 (wrap64 (x5 + 1)) x8 x9 (wrap64 (x10 + 1))) else (impl_ofKind.l0 k x1 x5 x8 x9 (wrap64 (x10 + 1)))) else (none)) else (none)) else (some x5)
def impl_ofKind.f (k : Nat) (l0 : List (S33)) (a1 : Int) : Option (Int) := impl_ofKind.l0 k a1 0 l0 (l0.length : Int) 0
theorem impl_ofKind.calls (k : Nat) (A0 : Option Addr) (c0 : Nat) (l0 : List (S33)) (a1 : Int) (r : Int) (w : World) (hr0 : Kd.C k33 w A0 l0.length l0) (hc0 : l0.length ≤ c0) (h : impl_ofKind.f k l0 a1 = some r) :
  Calls Tryz.prog 54 #[.slice A0 l0.length c0, .int .i64 a1] w fun e w' => e = .returned (.int .i64 r) ∧ Below w.heap.size w w' := by
 have hu33 := Tryz.underlying33
 have HR0 := Aside0.mk hr0
 have HC0 := Aside0.mk hc0
 clear hr0 hc0
 have HB := Aside0.mk (Below.refl w.heap.size w)
 have H : (impl_ofKind.l0 k a1 0 l0 (l0.length : Int) 0) = some r := h
 clear h
 have H' := Aside0.mk H
 clear H
 go_enter Tryz.func54, Tryz.ntmps54
 go_wp2
 go_loopg [5, 10] k (fun kq v5 v10 w' => ∃ (x5_1 : Int) (x10_1 : Int), v5 = .int .i64 x5_1 ∧ v10 = .int .i64 x10_1 ∧ Aside0 (impl_ofKind.l0 kq a1 x5_1 l0 (l0.length : Int) x10_1 = some r) ∧ Aside0 (kq ≤ k) ∧ Aside0 (Below w.heap.size w w'))
 case atStart => exact ⟨(0), (0), rG, rG, H', ⟨Nat.le_refl _⟩, ⟨by repeat (first|(with_reducible first|exact HB.out|apply zA|apply zN|apply zD) | exact HB.out)⟩⟩
 case round =>
  clear H'
  try clear p2
  try clear p2
  obtain ⟨x5_1, x10_1, rfl, rfl, HA, HK1, HB⟩ := hrel
  cases gk with
  | zero => exact absurd HA.out (by simp [impl_ofKind.l0])
  | succ k1 =>
   have H := HA.out
   clear HA
   simp only [impl_ofKind.l0] at H
   by_cases c3 : x10_1 < (l0.length : Int)
   ·rw [if_pos c3] at H
    have c3b0 : decide (x10_1 < (l0.length : Int)) = true := decide_eq_true c3
    clear c3
    by_cases c4 : 0 ≤ x10_1
    ·rw [if_pos c4] at H
     have c4b0 : decide (0 ≤ x10_1) = true := decide_eq_true c4
     clear c4
     by_cases c5 : x10_1 < (l0.length : Int)
     ·rw [if_pos c5] at H
      have c5b0 : decide (x10_1 < (l0.length : Int)) = true := decide_eq_true c5
      clear c5
      have p326 : 0 ≤ (x10_1 : Int) := odt
      have q326 : x10_1 < (l0.length : Int) := odt
      obtain ⟨ad326, A326_4, c326_4, A326_5, c326_5, A326_6, c326_6, e326, hx326_0, hx326_1, hx326_2, hx326_3, hx326_4, hx326_5, hx326_6, hx326_7, hl326_4, hi326_4, hl326_5, hi326_5, hl326_6, hi326_6⟩ := at_T33 HR0.out x10_1 p326 q326
      cases e326
      replace hx326_0 := pw_cell_below HB.out hx326_0
      replace hx326_1 := pw_cell_below HB.out hx326_1
      replace hx326_2 := pw_cell_below HB.out hx326_2
      replace hx326_3 := pw_cell_below HB.out hx326_3
      replace hx326_4 := pw_cell_below HB.out hx326_4
      replace hx326_5 := pw_cell_below HB.out hx326_5
      replace hx326_6 := pw_cell_below HB.out hx326_6
      replace hx326_7 := pw_cell_below HB.out hx326_7
      have HR326_4 := Aside0.mk hi326_4
      have HC326_4 := Aside0.mk hl326_4
      clear hi326_4 hl326_4
      have HR326_5 := Aside0.mk hi326_5
      have HC326_5 := Aside0.mk hl326_5
      clear hi326_5 hl326_5
      have HR326_6 := Aside0.mk hi326_6
      have HC326_6 := Aside0.mk hl326_6
      clear hi326_6 hl326_6
      replace p326 := eq_true p326
      replace q326 := eq_true q326
      go_wp2_with (first | ((with_reducible refine gate_dst (N := 7) rfl ?_); refine box_event ?hg (N := 7) ?hd (cs := #[.int .i64 0, .string (⟨#[]⟩ : ByteArray), .string (⟨#[]⟩ : ByteArray), .string (⟨#[]⟩ : ByteArray), .slice none 0 0, .slice none 0 0, .slice none 0 0, .string (⟨#[]⟩ : ByteArray)]) (t := 33) ?hr ?_; (case hd => rfl); (case hg => rfl); (case hr => first | (go_simp; done) | (go_simp; rfl)); intro gb327 hg w6 hbox hb; have BK327 := Aside0.mk (hbox); have GW327 := Aside0.mk ((by rw [hg]; exact (below_size (by repeat (first|(with_reducible first|exact HB.out|apply zA|apply zN|apply zD) | exact HB.out))) : w.heap.size ≤ gb327)); have GE327 := Aside0.mk ((by rw [hg]; exact (below_size (by repeat (first|(with_reducible first|exact HB.out|apply zA|apply zN|apply zD) | exact HB.out))) : w.heap.size ≤ gb327)); replace HB := Aside0.mk (below_step (by repeat (first|(with_reducible first|exact HB.out|apply zA|apply zN|apply zD) | exact HB.out)) hb); clear hb hbox hg; obtain ⟨hcz7_0, hcz7_1, hcz7_2, hcz7_3, hcz7_4, hcz7_5, hcz7_6, hcz7_7⟩ := bc8 BK327.out; obtain ⟨hfz7_0, hfz7_1, hfz7_2, hfz7_3, hfz7_4, hfz7_5, hfz7_6, hfz7_7⟩ := bf8 BK327.out; refine halt_ ?_; intro q_ hq_))
      obtain ⟨rfl⟩ := hq_
      by_cases c8 : ((rd_T33 l0 x10_1).f0) = a1
      ·rw [if_pos c8] at H
       have c8b0 : (((rd_T33 l0 x10_1).f0) == a1) = true := beq_iff_eq.mpr c8
       have c8b1 : (((rd_T33 l0 x10_1).f0) != a1) = false := bne_eq_false_iff_eq.mpr c8
       clear c8
       have H' := Aside0.mk H
       clear H
       go_wp2
       go_roundg k1
       case measure => have := HK1.out; omega
       case rel => exact ⟨(wrap64 (x5_1 + 1)), (wrap64 (x10_1 + 1)), rG, rG, H', ⟨by have := HK1.out; omega⟩, ⟨by repeat (first|(with_reducible first|exact HB.out|apply zA|apply zN|apply zD | refine below_set ?_ GE327.out) | exact HB.out)⟩⟩
      ·rw [if_neg c8] at H
       have c8b0 : (((rd_T33 l0 x10_1).f0) == a1) = false := beq_eq_false_iff_ne.mpr c8
       have c8b1 : (((rd_T33 l0 x10_1).f0) != a1) = true := bne_iff_ne.mpr c8
       have H' := Aside0.mk H
       clear H
       go_wp2
       go_roundg k1
       case measure => have := HK1.out; omega
       case rel => exact ⟨(x5_1), (wrap64 (x10_1 + 1)), rG, rG, H', ⟨by have := HK1.out; omega⟩, ⟨by repeat (first|(with_reducible first|exact HB.out|apply zA|apply zN|apply zD | refine below_set ?_ GE327.out) | exact HB.out)⟩⟩
     ·rw [if_neg c5] at H
      exact absurd H (by simp)
    ·rw [if_neg c4] at H
     exact absurd H (by simp)
   ·rw [if_neg c3] at H
    have c3b0 : decide (x10_1 < (l0.length : Int)) = false := decide_eq_false c3
    clear c3
    obtain rfl := Option.some.inj H
    go_wp2
    go_ret
    exact ⟨rE, by repeat (first|(with_reducible first|exact HB.out|apply zA|apply zN|apply zD) | exact HB.out)⟩

/-! ### impl_NodeOk: function 21 -/
def impl_NodeOk.f (k : Nat) (a0_0 : Int) (a0_1 : ByteArray) (a0_2 : ByteArray) (a0_3 : ByteArray) (l0_4 : List (S80)) (l0_5 : List (S75)) (l0_6 : List (S33)) (a0_7 : ByteArray) : Option (Bool) := (impl_CountOf.f k a0_0 a0_1 a0_2 a0_3 l0_4 l0_5 l0_6 a0_7).bind fun t329 => (if t329 > 60 then (some false) else (if a0_0 = 0 then (if a0_1.toList = ([] : List UInt8) then (if a0_2.toList = ([] : List UInt8) then (if a0_3.toList = ([] : List UInt8) then (if a0_7.toList = ([] : List UInt8) then (if (l0_4.length : Int) = 0 then (if (l0_5.length : Int) = 0 then ((impl_ofKind.f k l0_6 1).bind fun t330 => (if t330 = 1 then ((impl_ofKind.f k l0_6 2).bind fun t331 => (if t331 = 0 then ((impl_kidsOk.f k a0_0 a0_1 a0_2 a0_3 l0_4 l0_5 l0_6 a0_7 0).bind fun t332 => (some t332)) else (some false))) else (some false))) else (some false)) else (some false)) else (some false)) else (some false)) else (some false)) else (some false)) else ((impl_partOk.f k a0_0 a0_1 a0_2 a0_3 l0_4 l0_5 l0_6 a0_7 0).bind fun t333 => (some t333))))
theorem impl_NodeOk.calls (k : Nat) (a0_0 : Int) (a0_1 : ByteArray) (a0_2 : ByteArray) (a0_3 : ByteArray) (A0_4 : Option Addr) (c0_4 : Nat) (l0_4 : List (S80)) (A0_5 : Option Addr) (c0_5 : Nat) (l0_5 : List (S75)) (A0_6 : Option Addr) (c0_6 : Nat) (l0_6 : List (S33)) (a0_7 : ByteArray) (r : Bool) (w : World) (hr0_4 : Kd.C k80 w A0_4 l0_4.length l0_4) (hc0_4 : l0_4.length ≤ c0_4) (hr0_5 : Kd.C k75 w A0_5 l0_5.length l0_5) (hc0_5 : l0_5.length ≤ c0_5) (hr0_6 : Kd.C k33 w A0_6 l0_6.length l0_6) (hc0_6 : l0_6.length ≤ c0_6) (hTab : Tabs w) (h : impl_NodeOk.f k a0_0 a0_1 a0_2 a0_3 l0_4 l0_5 l0_6 a0_7 = some r) :
  Calls Tryz.prog 21 #[.agg #[.int .i64 a0_0, .string a0_1, .string a0_2, .string a0_3, .slice A0_4 l0_4.length c0_4, .slice A0_5 l0_5.length c0_5, .slice A0_6 l0_6.length c0_6, .string a0_7]] w fun e w' => e = .returned (.bool r) ∧ Below w.heap.size w w' := by
 have HT := Aside0.mk hTab
 clear hTab
 have hu33 := Tryz.underlying33
 have HR0_4 := Aside0.mk hr0_4
 have HC0_4 := Aside0.mk hc0_4
 clear hr0_4 hc0_4
 have HR0_5 := Aside0.mk hr0_5
 have HC0_5 := Aside0.mk hc0_5
 clear hr0_5 hc0_5
 have HR0_6 := Aside0.mk hr0_6
 have HC0_6 := Aside0.mk hc0_6
 clear hr0_6 hc0_6
 have HB := Aside0.mk (Below.refl w.heap.size w)
 have H : ((impl_CountOf.f k a0_0 a0_1 a0_2 a0_3 l0_4 l0_5 l0_6 a0_7).bind fun t329 => (if t329 > 60 then (some false) else (if a0_0 = 0 then (if a0_1.toList = ([] : List UInt8) then (if a0_2.toList = ([] : List UInt8) then (if a0_3.toList = ([] : List UInt8) then (if a0_7.toList = ([] : List UInt8) then (if (l0_4.length : Int) = 0 then (if (l0_5.length : Int) = 0 then ((impl_ofKind.f k l0_6 1).bind fun t330 => (if t330 = 1 then ((impl_ofKind.f k l0_6 2).bind fun t331 => (if t331 = 0 then ((impl_kidsOk.f k a0_0 a0_1 a0_2 a0_3 l0_4 l0_5 l0_6 a0_7 0).bind fun t332 => (some t332)) else (some false))) else (some false))) else (some false)) else (some false)) else (some false)) else (some false)) else (some false)) else (some false)) else ((impl_partOk.f k a0_0 a0_1 a0_2 a0_3 l0_4 l0_5 l0_6 a0_7 0).bind fun t333 => (some t333))))) = some r := h
 clear h
 replace H := Option.bind_eq_some_iff.mp H
 obtain ⟨t329, A20, H⟩ := H
 try dsimp only at H
 have A2 := Aside0.mk A20
 clear A20
 go_enter Tryz.func21, Tryz.ntmps21
 go_wp2_with (first | ((with_reducible refine gate_dst (N := 1) rfl ?_); (try (refine gate_guard (by rfl) ?_; dsimp only)); refine box_event ?hg (N := 1) ?hd (cs := #[.int .i64 a0_0, .string a0_1, .string a0_2, .string a0_3, .slice A0_4 l0_4.length c0_4, .slice A0_5 l0_5.length c0_5, .slice A0_6 l0_6.length c0_6, .string a0_7]) (t := 33) ?hr ?_; (case hd => rfl); (case hg => rfl); (case hr => first | (go_simp; done) | (go_simp; rfl)); intro gb328 hg w3 hbox hb; have BK328 := Aside0.mk (hbox); have GW328 := Aside0.mk ((by rw [hg]; exact (below_size (by repeat (first|(with_reducible first|exact HB.out|apply zA|apply zN|apply zD) | exact HB.out))) : w.heap.size ≤ gb328)); have GE328 := Aside0.mk ((by rw [hg]; exact (below_size (by repeat (first|(with_reducible first|exact HB.out|apply zA|apply zN|apply zD) | exact HB.out))) : w.heap.size ≤ gb328)); replace HB := Aside0.mk (below_step (by repeat (first|(with_reducible first|exact HB.out|apply zA|apply zN|apply zD) | exact HB.out)) hb); clear hb hbox hg; obtain ⟨hcz4_0, hcz4_1, hcz4_2, hcz4_3, hcz4_4, hcz4_5, hcz4_6, hcz4_7⟩ := bc8 BK328.out) | ((with_reducible refine gate_callee (f := 20) rfl ?_); refine goesL_ (some 5) rfl rfl Tryz.func20 (by kernel_rfl) rfl #[.agg #[.int .i64 a0_0, .string a0_1, .string a0_2, .string a0_3, .slice A0_4 l0_4.length c0_4, .slice A0_5 l0_5.length c0_5, .slice A0_6 l0_6.length c0_6, .string a0_7]] rfl (by (try simp only [List.map_toArray, List.map_cons, List.map_nil]); first | done | rfl | (simp only [List.length_drop, List.length_take]; rfl)) ?_; (with_reducible refine (impl_CountOf.calls k a0_0 a0_1 a0_2 a0_3 _ _ l0_4 _ _ l0_5 _ _ l0_6 a0_7 t329 _ ?side1 ?side2 ?side3 ?side4 ?side5 ?side6 A2.out).mono ?_); (case side1 => repeat (first | exact (Kd.C_below HR0_4.out HB.out) | (with_reducible refine Kd.C_alloc ?_ _) | (with_reducible refine Kd.C_drewN ?_ _) | (with_reducible refine Kd.C_drew ?_))); (case side2 => exact HC0_4.out); (case side3 => repeat (first | exact (Kd.C_below HR0_5.out HB.out) | (with_reducible refine Kd.C_alloc ?_ _) | (with_reducible refine Kd.C_drewN ?_ _) | (with_reducible refine Kd.C_drew ?_))); (case side4 => exact HC0_5.out); (case side5 => repeat (first | exact (Kd.C_below HR0_6.out HB.out) | (with_reducible refine Kd.C_alloc ?_ _) | (with_reducible refine Kd.C_drewN ?_ _) | (with_reducible refine Kd.C_drew ?_))); (case side6 => exact HC0_6.out); rintro e w5 ⟨rfl, hb⟩; refine ⟨_, rfl, ?_⟩; replace BK328 := Aside0.mk (blk_below (g := gb328) (by (with_reducible repeat (first | refine bN ?_ _|refine bD ?_|refine bA ?_ _)); exact BK328.out) hb); replace HB := Aside0.mk (below_step (by repeat (first|(with_reducible first|exact HB.out|apply zA|apply zN|apply zD | refine below_set ?_ GE328.out) | exact HB.out)) hb); (try clear hb); (try clear hb2); (try clear hk); (try clear hi); refine halt_ ?_; intro q_ hq_))
 obtain ⟨rfl⟩ := hq_
 by_cases c6 : t329 > 60
 ·rw [if_pos c6] at H
  have c6b0 : decide (60 < t329) = true := decide_eq_true c6
  clear c6
  obtain rfl := Option.some.inj H
  go_wp2
  go_ret
  exact ⟨rE, by repeat (first|(with_reducible first|exact HB.out|apply zA|apply zN|apply zD | refine below_set ?_ GE328.out) | exact HB.out)⟩
 ·rw [if_neg c6] at H
  have c6b0 : decide (60 < t329) = false := decide_eq_false c6
  clear c6
  by_cases c7 : a0_0 = 0
  ·rw [if_pos c7] at H
   have c7b0 : (a0_0 == 0) = true := beq_iff_eq.mpr c7
   have c7b1 : (a0_0 != 0) = false := bne_eq_false_iff_eq.mpr c7
   clear c7
   by_cases c8 : a0_1.toList = ([] : List UInt8)
   ·rw [if_pos c8] at H
    have c8b0 : (a0_1.toList == ([] : List UInt8)) = true := beq_iff_eq.mpr c8
    have c8b1 : (a0_1.toList != ([] : List UInt8)) = false := bne_eq_false_iff_eq.mpr c8
    clear c8
    by_cases c9 : a0_2.toList = ([] : List UInt8)
    ·rw [if_pos c9] at H
     have c9b0 : (a0_2.toList == ([] : List UInt8)) = true := beq_iff_eq.mpr c9
     have c9b1 : (a0_2.toList != ([] : List UInt8)) = false := bne_eq_false_iff_eq.mpr c9
     clear c9
     by_cases c10 : a0_3.toList = ([] : List UInt8)
     ·rw [if_pos c10] at H
      have c10b0 : (a0_3.toList == ([] : List UInt8)) = true := beq_iff_eq.mpr c10
      have c10b1 : (a0_3.toList != ([] : List UInt8)) = false := bne_eq_false_iff_eq.mpr c10
      clear c10
      by_cases c11 : a0_7.toList = ([] : List UInt8)
      ·rw [if_pos c11] at H
       have c11b0 : (a0_7.toList == ([] : List UInt8)) = true := beq_iff_eq.mpr c11
       have c11b1 : (a0_7.toList != ([] : List UInt8)) = false := bne_eq_false_iff_eq.mpr c11
       clear c11
       by_cases c12 : (l0_4.length : Int) = 0
       ·rw [if_pos c12] at H
        have c12b0 : ((l0_4.length : Int) == 0) = true := beq_iff_eq.mpr c12
        have c12b1 : ((l0_4.length : Int) != 0) = false := bne_eq_false_iff_eq.mpr c12
        clear c12
        by_cases c13 : (l0_5.length : Int) = 0
        ·rw [if_pos c13] at H
         have c13b0 : ((l0_5.length : Int) == 0) = true := beq_iff_eq.mpr c13
         have c13b1 : ((l0_5.length : Int) != 0) = false := bne_eq_false_iff_eq.mpr c13
         clear c13
         replace H := Option.bind_eq_some_iff.mp H
         obtain ⟨t330, A140, H⟩ := H
         try dsimp only at H
         have A14 := Aside0.mk A140
         clear A140
         obtain ⟨hcz15_0, hcz15_1, hcz15_2, hcz15_3, hcz15_4, hcz15_5, hcz15_6, hcz15_7⟩ := bc8 BK328.out
         go_wp2_with (first | (go_at_call 54; (with_reducible refine (impl_ofKind.calls k _ _ l0_6 1 t330 _ ?side1 ?side2 A14.out).mono ?_); (case side1 => repeat (first | exact (Kd.C_below HR0_6.out HB.out) | (with_reducible refine Kd.C_alloc ?_ _) | (with_reducible refine Kd.C_drewN ?_ _) | (with_reducible refine Kd.C_drew ?_))); (case side2 => exact HC0_6.out); rintro e w16 ⟨rfl, hb⟩; replace BK328 := Aside0.mk (blk_below (g := gb328) (by (with_reducible repeat (first | refine bN ?_ _|refine bD ?_|refine bA ?_ _)); exact BK328.out) hb); replace HB := Aside0.mk (below_step (by repeat (first|(with_reducible first|exact HB.out|apply zA|apply zN|apply zD | refine below_set ?_ GE328.out) | exact HB.out)) hb); (try clear hb); (try clear hb2); (try clear hk); (try clear hi); refine halt_ ?_; intro q_ hq_))
         obtain ⟨rfl⟩ := hq_
         by_cases c17 : t330 = 1
         ·rw [if_pos c17] at H
          have c17b0 : (t330 == 1) = true := beq_iff_eq.mpr c17
          have c17b1 : (t330 != 1) = false := bne_eq_false_iff_eq.mpr c17
          clear c17
          replace H := Option.bind_eq_some_iff.mp H
          obtain ⟨t331, A180, H⟩ := H
          try dsimp only at H
          have A18 := Aside0.mk A180
          clear A180
          obtain ⟨hcz19_0, hcz19_1, hcz19_2, hcz19_3, hcz19_4, hcz19_5, hcz19_6, hcz19_7⟩ := bc8 BK328.out
          go_wp2_with (first | (go_at_call 54; (with_reducible refine (impl_ofKind.calls k _ _ l0_6 2 t331 _ ?side1 ?side2 A18.out).mono ?_); (case side1 => repeat (first | exact (Kd.C_below HR0_6.out HB.out) | (with_reducible refine Kd.C_alloc ?_ _) | (with_reducible refine Kd.C_drewN ?_ _) | (with_reducible refine Kd.C_drew ?_))); (case side2 => exact HC0_6.out); rintro e w20 ⟨rfl, hb⟩; replace BK328 := Aside0.mk (blk_below (g := gb328) (by (with_reducible repeat (first | refine bN ?_ _|refine bD ?_|refine bA ?_ _)); exact BK328.out) hb); replace HB := Aside0.mk (below_step (by repeat (first|(with_reducible first|exact HB.out|apply zA|apply zN|apply zD | refine below_set ?_ GE328.out) | exact HB.out)) hb); (try clear hb); (try clear hb2); (try clear hk); (try clear hi); refine halt_ ?_; intro q_ hq_))
          obtain ⟨rfl⟩ := hq_
          by_cases c21 : t331 = 0
          ·rw [if_pos c21] at H
           have c21b0 : (t331 == 0) = true := beq_iff_eq.mpr c21
           have c21b1 : (t331 != 0) = false := bne_eq_false_iff_eq.mpr c21
           clear c21
           replace H := Option.bind_eq_some_iff.mp H
           obtain ⟨t332, A220, H⟩ := H
           try dsimp only at H
           have A22 := Aside0.mk A220
           clear A220
           obtain rfl := Option.some.inj H
           obtain ⟨hcz23_0, hcz23_1, hcz23_2, hcz23_3, hcz23_4, hcz23_5, hcz23_6, hcz23_7⟩ := bc8 BK328.out
           go_wp2_with (first | (go_at_call 55; (with_reducible refine (impl_kidsOk.calls k a0_0 a0_1 a0_2 a0_3 _ _ l0_4 _ _ l0_5 _ _ l0_6 a0_7 0 t332 _ ?side1 ?side2 ?side3 ?side4 ?side5 ?side6 ?tabs A22.out).mono ?_); (case tabs => first | exact Tabs.below HT.out (by repeat (first|(with_reducible first|exact HB.out|apply zA|apply zN|apply zD | refine below_set ?_ GE328.out) | exact HB.out)) | (repeat (first | exact HT.out | (with_reducible refine Tabs.drewN ?_ _) | (with_reducible refine Tabs.drew ?_) | (with_reducible refine Tabs.alloc ?_ _)))); (case side1 => repeat (first | exact (Kd.C_below HR0_4.out HB.out) | (with_reducible refine Kd.C_alloc ?_ _) | (with_reducible refine Kd.C_drewN ?_ _) | (with_reducible refine Kd.C_drew ?_))); (case side2 => exact HC0_4.out); (case side3 => repeat (first | exact (Kd.C_below HR0_5.out HB.out) | (with_reducible refine Kd.C_alloc ?_ _) | (with_reducible refine Kd.C_drewN ?_ _) | (with_reducible refine Kd.C_drew ?_))); (case side4 => exact HC0_5.out); (case side5 => repeat (first | exact (Kd.C_below HR0_6.out HB.out) | (with_reducible refine Kd.C_alloc ?_ _) | (with_reducible refine Kd.C_drewN ?_ _) | (with_reducible refine Kd.C_drew ?_))); (case side6 => exact HC0_6.out); rintro e w24 ⟨rfl, hb⟩; replace BK328 := Aside0.mk (blk_below (g := gb328) (by (with_reducible repeat (first | refine bN ?_ _|refine bD ?_|refine bA ?_ _)); exact BK328.out) hb); replace HB := Aside0.mk (below_step (by repeat (first|(with_reducible first|exact HB.out|apply zA|apply zN|apply zD | refine below_set ?_ GE328.out) | exact HB.out)) hb); (try clear hb); (try clear hb2); (try clear hk); (try clear hi)))
           go_ret
           exact ⟨rE, by repeat (first|(with_reducible first|exact HB.out|apply zA|apply zN|apply zD | refine below_set ?_ GE328.out) | exact HB.out)⟩
          ·rw [if_neg c21] at H
           have c21b0 : (t331 == 0) = false := beq_eq_false_iff_ne.mpr c21
           have c21b1 : (t331 != 0) = true := bne_iff_ne.mpr c21
           obtain rfl := Option.some.inj H
           go_wp2
           go_ret
           exact ⟨rE, by repeat (first|(with_reducible first|exact HB.out|apply zA|apply zN|apply zD | refine below_set ?_ GE328.out) | exact HB.out)⟩
         ·rw [if_neg c17] at H
          have c17b0 : (t330 == 1) = false := beq_eq_false_iff_ne.mpr c17
          have c17b1 : (t330 != 1) = true := bne_iff_ne.mpr c17
          obtain rfl := Option.some.inj H
          go_wp2
          go_ret
          exact ⟨rE, by repeat (first|(with_reducible first|exact HB.out|apply zA|apply zN|apply zD | refine below_set ?_ GE328.out) | exact HB.out)⟩
        ·rw [if_neg c13] at H
         have c13b0 : ((l0_5.length : Int) == 0) = false := beq_eq_false_iff_ne.mpr c13
         have c13b1 : ((l0_5.length : Int) != 0) = true := bne_iff_ne.mpr c13
         have c13b2 : ¬ (l0_5 = []) := fun h_ => c13 (by rw [h_]; rfl)
         obtain rfl := Option.some.inj H
         obtain ⟨hcz25_0, hcz25_1, hcz25_2, hcz25_3, hcz25_4, hcz25_5, hcz25_6, hcz25_7⟩ := bc8 BK328.out
         go_wp2
         go_ret
         exact ⟨rE, by repeat (first|(with_reducible first|exact HB.out|apply zA|apply zN|apply zD | refine below_set ?_ GE328.out) | exact HB.out)⟩
       ·rw [if_neg c12] at H
        have c12b0 : ((l0_4.length : Int) == 0) = false := beq_eq_false_iff_ne.mpr c12
        have c12b1 : ((l0_4.length : Int) != 0) = true := bne_iff_ne.mpr c12
        have c12b2 : ¬ (l0_4 = []) := fun h_ => c12 (by rw [h_]; rfl)
        obtain rfl := Option.some.inj H
        obtain ⟨hcz26_0, hcz26_1, hcz26_2, hcz26_3, hcz26_4, hcz26_5, hcz26_6, hcz26_7⟩ := bc8 BK328.out
        go_wp2
        go_ret
        exact ⟨rE, by repeat (first|(with_reducible first|exact HB.out|apply zA|apply zN|apply zD | refine below_set ?_ GE328.out) | exact HB.out)⟩
      ·rw [if_neg c11] at H
       have c11b0 : (a0_7.toList == ([] : List UInt8)) = false := beq_eq_false_iff_ne.mpr c11
       have c11b1 : (a0_7.toList != ([] : List UInt8)) = true := bne_iff_ne.mpr c11
       obtain rfl := Option.some.inj H
       obtain ⟨hcz27_0, hcz27_1, hcz27_2, hcz27_3, hcz27_4, hcz27_5, hcz27_6, hcz27_7⟩ := bc8 BK328.out
       go_wp2
       go_ret
       exact ⟨rE, by repeat (first|(with_reducible first|exact HB.out|apply zA|apply zN|apply zD | refine below_set ?_ GE328.out) | exact HB.out)⟩
     ·rw [if_neg c10] at H
      have c10b0 : (a0_3.toList == ([] : List UInt8)) = false := beq_eq_false_iff_ne.mpr c10
      have c10b1 : (a0_3.toList != ([] : List UInt8)) = true := bne_iff_ne.mpr c10
      obtain rfl := Option.some.inj H
      obtain ⟨hcz28_0, hcz28_1, hcz28_2, hcz28_3, hcz28_4, hcz28_5, hcz28_6, hcz28_7⟩ := bc8 BK328.out
      go_wp2
      go_ret
      exact ⟨rE, by repeat (first|(with_reducible first|exact HB.out|apply zA|apply zN|apply zD | refine below_set ?_ GE328.out) | exact HB.out)⟩
    ·rw [if_neg c9] at H
     have c9b0 : (a0_2.toList == ([] : List UInt8)) = false := beq_eq_false_iff_ne.mpr c9
     have c9b1 : (a0_2.toList != ([] : List UInt8)) = true := bne_iff_ne.mpr c9
     obtain rfl := Option.some.inj H
     obtain ⟨hcz29_0, hcz29_1, hcz29_2, hcz29_3, hcz29_4, hcz29_5, hcz29_6, hcz29_7⟩ := bc8 BK328.out
     go_wp2
     go_ret
     exact ⟨rE, by repeat (first|(with_reducible first|exact HB.out|apply zA|apply zN|apply zD | refine below_set ?_ GE328.out) | exact HB.out)⟩
   ·rw [if_neg c8] at H
    have c8b0 : (a0_1.toList == ([] : List UInt8)) = false := beq_eq_false_iff_ne.mpr c8
    have c8b1 : (a0_1.toList != ([] : List UInt8)) = true := bne_iff_ne.mpr c8
    obtain rfl := Option.some.inj H
    obtain ⟨hcz30_0, hcz30_1, hcz30_2, hcz30_3, hcz30_4, hcz30_5, hcz30_6, hcz30_7⟩ := bc8 BK328.out
    go_wp2
    go_ret
    exact ⟨rE, by repeat (first|(with_reducible first|exact HB.out|apply zA|apply zN|apply zD | refine below_set ?_ GE328.out) | exact HB.out)⟩
  ·rw [if_neg c7] at H
   have c7b0 : (a0_0 == 0) = false := beq_eq_false_iff_ne.mpr c7
   have c7b1 : (a0_0 != 0) = true := bne_iff_ne.mpr c7
   replace H := Option.bind_eq_some_iff.mp H
   obtain ⟨t333, A310, H⟩ := H
   try dsimp only at H
   have A31 := Aside0.mk A310
   clear A310
   obtain rfl := Option.some.inj H
   obtain ⟨hcz32_0, hcz32_1, hcz32_2, hcz32_3, hcz32_4, hcz32_5, hcz32_6, hcz32_7⟩ := bc8 BK328.out
   go_wp2_with (first | ((with_reducible refine gate_callee (f := 53) rfl ?_); refine goesL_ (some 11) rfl rfl Tryz.func53 (by kernel_rfl) rfl #[.agg #[.int .i64 a0_0, .string a0_1, .string a0_2, .string a0_3, .slice A0_4 l0_4.length c0_4, .slice A0_5 l0_5.length c0_5, .slice A0_6 l0_6.length c0_6, .string a0_7], .int .i64 0] rfl (by (try simp only [List.map_toArray, List.map_cons, List.map_nil]); first | done | rfl | (simp only [List.length_drop, List.length_take]; rfl)) ?_; (with_reducible refine (impl_partOk.calls k a0_0 a0_1 a0_2 a0_3 _ _ l0_4 _ _ l0_5 _ _ l0_6 a0_7 0 t333 _ ?side1 ?side2 ?side3 ?side4 ?side5 ?side6 ?tabs A31.out).mono ?_); (case tabs => first | exact Tabs.below HT.out (by repeat (first|(with_reducible first|exact HB.out|apply zA|apply zN|apply zD | refine below_set ?_ GE328.out) | exact HB.out)) | (repeat (first | exact HT.out | (with_reducible refine Tabs.drewN ?_ _) | (with_reducible refine Tabs.drew ?_) | (with_reducible refine Tabs.alloc ?_ _)))); (case side1 => repeat (first | exact (Kd.C_below HR0_4.out HB.out) | (with_reducible refine Kd.C_alloc ?_ _) | (with_reducible refine Kd.C_drewN ?_ _) | (with_reducible refine Kd.C_drew ?_))); (case side2 => exact HC0_4.out); (case side3 => repeat (first | exact (Kd.C_below HR0_5.out HB.out) | (with_reducible refine Kd.C_alloc ?_ _) | (with_reducible refine Kd.C_drewN ?_ _) | (with_reducible refine Kd.C_drew ?_))); (case side4 => exact HC0_5.out); (case side5 => repeat (first | exact (Kd.C_below HR0_6.out HB.out) | (with_reducible refine Kd.C_alloc ?_ _) | (with_reducible refine Kd.C_drewN ?_ _) | (with_reducible refine Kd.C_drew ?_))); (case side6 => exact HC0_6.out); rintro e w33 ⟨rfl, hb⟩; refine ⟨_, rfl, ?_⟩; replace BK328 := Aside0.mk (blk_below (g := gb328) (by (with_reducible repeat (first | refine bN ?_ _|refine bD ?_|refine bA ?_ _)); exact BK328.out) hb); replace HB := Aside0.mk (below_step (by repeat (first|(with_reducible first|exact HB.out|apply zA|apply zN|apply zD | refine below_set ?_ GE328.out) | exact HB.out)) hb); (try clear hb); (try clear hb2); (try clear hk); (try clear hi)))
   go_ret
   exact ⟨rE, by repeat (first|(with_reducible first|exact HB.out|apply zA|apply zN|apply zD | refine below_set ?_ GE328.out) | exact HB.out)⟩

/-! ### impl_Decl_136: function 136 -/
/-- Grow of nil (as Concat calls it): a row without elements. -/
def impl_Decl_136.f (l0 : List S80) (a1 : Int) : Option (List S80) := if 0 ≤ a1 then (if a1 ≤ 549755813888 then some [] else none) else none
set_option maxHeartbeats 1000000 in
theorem impl_Decl_136.calls (A0 : Option Addr) (c0 : Nat) (l0 : List (S80)) (a1 : Int) (r : List (S80)) (w : World) (hr0 : Kd.C k80 w A0 l0.length l0) (hc0 : l0.length ≤ c0) (h : impl_Decl_136.f l0 a1 = some r) :
    Calls Tryz.prog 136 #[.slice none 0 0, .int .i64 a1] w fun e w' => ∃ v0_ : Value, e = .returned (v0_) ∧ Kd.R k80 80 w' w.heap.size (fun _ => True) v0_ r ∧ Below w.heap.size w w' := by
  clear hr0 hc0
  unfold impl_Decl_136.f at h
  by_cases h0 : 0 ≤ a1
  · rw [if_pos h0] at h
    by_cases h1 : a1 ≤ 549755813888
    · rw [if_pos h1] at h
      cases h
      have hlt : ¬ a1 < 0 := by omega
      by_cases hz : a1 = 0
      · subst hz
        go_enter Tryz.func136, Tryz.ntmps136
        go_wp2
        go_ret
        exact ⟨_, rfl, Kd.R_nil _ _ _ _ _, Below.refl _ _⟩
      · have hgt : a1 > 0 := by omega
        obtain ⟨i0, hi0, _, hsz, _⟩ := info_parts info80
        have hcut0 := cut_to (P := Tryz.prog) 29 80 .i64 Tryz.underlying29 hi0 none 0 0 0 (by omega) (by omega) (by omega)
        go_enter Tryz.func136, Tryz.ntmps136
        go_wp2_with (at_builtin; refine Kd.R_append_zeros k80 (w0 := w) w.heap.size rfl (.tmp 20) (.tmp 21) 29 3 80 (.agg #[(.string ⟨#[]⟩), (.string ⟨#[]⟩)]) 32 rfl Tryz.underlying29 Tryz.underlying3 info80 rfl (by decide) (by omega) (.slice none 0 0) [] z80 (a1 : Int) (fun _ => True) rfl rfl (k80_mkM _ _ _ z80) (fun _ _ => trivial) (Kd.R_nil _ _ _ _ _) (by omega) (Below.refl _ _) (Nat.le_refl _) (by simp; omega) ?_; intro v1 w1 h1 hb hg hat; obtain ⟨A1, c1, rfl, hc1, _⟩ := Kd.R_reads h1; have hr := Kd.R_take (m := 0) h1 (by omega); have hcut1 := cut_to (P := Tryz.prog) 29 80 .i64 Tryz.underlying29 hi0 A1 _ c1 0 (by omega) (by omega) hc1; have HR := Aside0.mk hr; clear hr h1 hg hat)
        go_ret
        exact ⟨_, rfl, HR.out, hb⟩
    · rw [if_neg h1] at h
      cases h
  · rw [if_neg h0] at h
    cases h

/-! ### impl_Decl_97: function 97 -/
mutual
def impl_Decl_97.l0 : Nat → List (List (S80)) → Int → List (List (S80)) → Int → Int → Option ((List (S80)))
 | 0, _, _, _, _, _ => none
 | k + 1, x0, x3, x9, x10, x11 => if x11 < x10 then (if 0 ≤ x11 then (if x11 < (x9.length : Int) then (if (wrap64 (x3 + ((rd_L8 x9 x11).length : Int))) < 0 then (none) else (impl_Decl_97.l0 k x0 (wrap64 (x3 + ((rd_L8 x9 x11).length : Int))) x9 x10 (wrap64 (x11 + 1)))) else (none)) else (none)) else ((impl_Decl_136.f ([] : List (S80)) x3).bind fun t335 => (impl_Decl_97.l1 k t335 x0 (x0.length : Int) 0))
def impl_Decl_97.l1 : Nat → List (S80) → List (List (S80)) → Int → Int → Option ((List (S80)))
 | 0, _, _, _, _ => none
 | k + 1, x6, x25, x26, x27 => if x27 < x26 then (if 0 ≤ x27 then (if x27 < (x25.length : Int) then (if x6.length + (rd_L8 x25 x27).length < 4398046511104 then (impl_Decl_97.l1 k (x6 ++ (rd_L8 x25 x27)) x25 x26 (wrap64 (x27 + 1))) else (none)) else (none)) else (none)) else (some x6)
end
def impl_Decl_97.f (k : Nat) (l0 : List (List (S80))) : Option ((List (S80))) := impl_Decl_97.l0 k l0 0 l0 (l0.length : Int) 0
theorem impl_Decl_97.calls (k : Nat) (A0 : Option Addr) (c0 : Nat) (l0 : List (List (S80))) (r : List (S80)) (w : World) (hr0 : Kd.C (Kd.slice 80 k80) w A0 l0.length l0) (hc0 : l0.length ≤ c0) (h : impl_Decl_97.f k l0 = some r) :
  Calls Tryz.prog 97 #[.slice A0 l0.length c0] w fun e w' => ∃ v0_ : Value, e = .returned (v0_) ∧ Kd.R k80 80 w' w.heap.size (fun _ => True) v0_ r ∧ Below w.heap.size w w' := by
 have HR0 := Aside0.mk hr0
 have HC0 := Aside0.mk hc0
 clear hr0 hc0
 have HB := Aside0.mk (Below.refl w.heap.size w)
 have H : (impl_Decl_97.l0 k l0 0 l0 (l0.length : Int) 0) = some r := h
 clear h
 have H' := Aside0.mk H
 clear H
 go_enter Tryz.func97, Tryz.ntmps97
 go_wp2
 go_loopg [3, 11] k (fun kq v3 v11 w' => ∃ (x3_1 : Int) (x11_1 : Int), v3 = .int .i64 x3_1 ∧ v11 = .int .i64 x11_1 ∧ Aside0 (impl_Decl_97.l0 kq l0 x3_1 l0 (l0.length : Int) x11_1 = some r) ∧ Aside0 (kq ≤ k) ∧ Aside0 (Below w.heap.size w w'))
 case atStart => exact ⟨(0), (0), rG, rG, H', ⟨Nat.le_refl _⟩, ⟨by repeat (first|(with_reducible first|exact HB.out|apply zA|apply zN|apply zD) | exact HB.out)⟩⟩
 case round =>
  clear H'
  obtain ⟨x3_1, x11_1, rfl, rfl, HA, HK1, HB⟩ := hrel
  cases gk with
  | zero => exact absurd HA.out (by simp [impl_Decl_97.l0])
  | succ k1 =>
   have H := HA.out
   clear HA
   simp only [impl_Decl_97.l0] at H
   by_cases c2 : x11_1 < (l0.length : Int)
   ·rw [if_pos c2] at H
    have c2b0 : decide (x11_1 < (l0.length : Int)) = true := decide_eq_true c2
    clear c2
    by_cases c3 : 0 ≤ x11_1
    ·rw [if_pos c3] at H
     have c3b0 : decide (0 ≤ x11_1) = true := decide_eq_true c3
     clear c3
     by_cases c4 : x11_1 < (l0.length : Int)
     ·rw [if_pos c4] at H
      have c4b0 : decide (x11_1 < (l0.length : Int)) = true := decide_eq_true c4
      clear c4
      by_cases c5 : (wrap64 (x3_1 + ((rd_L8 l0 x11_1).length : Int))) < 0
      ·rw [if_pos c5] at H
       exact absurd H (by simp)
      ·rw [if_neg c5] at H
       have c5b0 : decide ((wrap64 (x3_1 + ((rd_L8 l0 x11_1).length : Int))) < 0) = false := decide_eq_false c5
       clear c5
       have H' := Aside0.mk H
       clear H
       have p334 : 0 ≤ (x11_1 : Int) := odt
       have q334 : x11_1 < (l0.length : Int) := odt
       obtain ⟨ad334, A334_0, c334_0, e334, hx334_0, hl334_0, hi334_0⟩ := at_L8 HR0.out x11_1 p334 q334
       cases e334
       replace hx334_0 := pw_cell_below HB.out hx334_0
       have HR334_0 := Aside0.mk hi334_0
       have HC334_0 := Aside0.mk hl334_0
       clear hi334_0 hl334_0
       replace p334 := eq_true p334
       replace q334 := eq_true q334
       go_wp2
       go_roundg k1
       case measure => have := HK1.out; omega
       case rel => exact ⟨(wrap64 (x3_1 + ((rd_L8 l0 x11_1).length : Int))), (wrap64 (x11_1 + 1)), rG, rG, H', ⟨by have := HK1.out; omega⟩, ⟨by repeat (first|(with_reducible first|exact HB.out|apply zA|apply zN|apply zD) | exact HB.out)⟩⟩
     ·rw [if_neg c4] at H
      exact absurd H (by simp)
    ·rw [if_neg c3] at H
     exact absurd H (by simp)
   ·rw [if_neg c2] at H
    have c2b0 : decide (x11_1 < (l0.length : Int)) = false := decide_eq_false c2
    clear c2
    replace H := Option.bind_eq_some_iff.mp H
    obtain ⟨t335, A60, H⟩ := H
    try dsimp only at H
    have A6 := Aside0.mk A60
    clear A60
    have H' := Aside0.mk H
    clear H
    go_wp2_with (first | ((with_reducible refine gate_callee (f := 136) rfl ?_); refine goesL_ (some 24) rfl rfl Tryz.func136 (by kernel_rfl) rfl #[.slice none 0 0, .int .i64 x3_1] rfl (by (try simp only [List.map_toArray, List.map_cons, List.map_nil]); first | done | rfl | (simp only [List.length_drop, List.length_take]; rfl)) ?_; (refine (impl_Decl_136.calls none 0 ([] : List (S80)) x3_1 t335 _ ?side1 ?side2 A6.out).mono ?_); (case side1 => exact Kd.C_nil _ _); (case side2 => exact Nat.le_refl _); rintro e w7 ⟨v336, rfl, ho0, hb⟩; refine ⟨_, rfl, ?_⟩; have HO337 := Aside0.mk (Kd.R_lower ho0 (below_size (by repeat (first|(with_reducible first|exact HB.out|apply zA|apply zN|apply zD) | exact HB.out)))); replace HB := Aside0.mk (below_step (by repeat (first|(with_reducible first|exact HB.out|apply zA|apply zN|apply zD) | exact HB.out)) hb); (try clear hb); (try clear hb2); (try clear hk); (try clear hi); (try clear ho0)))
    go_loopg [6, 27] k1 (fun kq v6 v27 w' => ∃ (x6_2 : List (S80)) (x27_2 : Int), v27 = .int .i64 x27_2 ∧ Aside0 (impl_Decl_97.l1 kq x6_2 l0 (l0.length : Int) x27_2 = some r) ∧ Aside0 (kq ≤ k1) ∧ Aside0 (Kd.R k80 80 w' w.heap.size (fun _ => True) v6 x6_2) ∧ Aside0 (Below w.heap.size w w'))
    case atStart => exact ⟨(t335), (0), rG, H', ⟨Nat.le_refl _⟩, ⟨by (with_reducible repeat (first|apply rA|apply rN|apply rD)); exact HO337.out⟩, ⟨by repeat (first|(with_reducible first|exact HB.out|apply zA|apply zN|apply zD) | exact HB.out)⟩⟩
    case round =>
     clear H'
     try clear c1
     try clear c2
     try clear c2b0
     try clear p2
     try clear c3
     try clear c3b0
     try clear p3
     try clear q3
     try clear hx3
     try clear c4
     try clear c4b0
     try clear c5
     try clear c5b0
     try clear p6
     try clear p2
     try clear p3
     try clear p6
     try clear q3
     obtain ⟨x6_2, x27_2, rfl, HA, HK2, HO_6, HB⟩ := hrel
     cases gk with
     | zero => exact absurd HA.out (by simp [impl_Decl_97.l1])
     | succ k2 =>
      have H := HA.out
      clear HA
      simp only [impl_Decl_97.l1] at H
      by_cases c8 : x27_2 < (l0.length : Int)
      ·rw [if_pos c8] at H
       have c8b0 : decide (x27_2 < (l0.length : Int)) = true := decide_eq_true c8
       clear c8
       by_cases c9 : 0 ≤ x27_2
       ·rw [if_pos c9] at H
        have c9b0 : decide (0 ≤ x27_2) = true := decide_eq_true c9
        clear c9
        by_cases c10 : x27_2 < (l0.length : Int)
        ·rw [if_pos c10] at H
         have c10b0 : decide (x27_2 < (l0.length : Int)) = true := decide_eq_true c10
         clear c10
         by_cases c11 : x6_2.length + (rd_L8 l0 x27_2).length < 4398046511104
         ·rw [if_pos c11] at H
          have LMc11 := Aside0.mk c11
          clear c11
          obtain ⟨y339, hy339⟩ : ∃ y_ : List (S80), y_ = (x6_2 ++ (rd_L8 l0 x27_2)) := ⟨_, rfl⟩
          replace H : (impl_Decl_97.l1 k2 y339 l0 (l0.length : Int) (wrap64 (x27_2 + 1))) = some r := by first | (rw [hy339]; with_reducible exact H) | (have H2_ := (Option.bind_some _ _).symm.trans H; rw [hy339]; with_reducible exact H2_) | (have H2_ := (Option.bind_some _ _).symm.trans H; with_reducible exact H2_) | with_reducible exact H | (rw [hy339]; exact H) | exact H
          have Ny339 := Aside0.mk hy339
          clear hy339
          have H' := Aside0.mk H
          clear H
          have p338 : 0 ≤ (x27_2 : Int) := odt
          have q338 : x27_2 < (l0.length : Int) := odt
          obtain ⟨ad338, A338_0, c338_0, e338, hx338_0, hl338_0, hi338_0⟩ := at_L8 HR0.out x27_2 p338 q338
          cases e338
          replace hx338_0 := pw_cell_below HB.out hx338_0
          have HR338_0 := Aside0.mk hi338_0
          have HC338_0 := Aside0.mk hl338_0
          clear hi338_0 hl338_0
          replace p338 := eq_true p338
          replace q338 := eq_true q338
          go_wp2_with (first | ((with_reducible refine gate_builtin (b := .append) (xs := #[.tmp 31, .tmp 32]) rfl ?_); at_builtin; refine Kd.R_append_rows k80 (w0 := w) w.heap.size rfl (.tmp 31) (.tmp 32) 29 80 (.agg #[(.string ⟨#[]⟩), (.string ⟨#[]⟩)]) 32 rfl Tryz.underlying29 info80 rfl (by decide) (by omega) u6 x6_2 (rd_L8 l0 x27_2) _ _ _ (fun _ => True) (fun _ => False) rfl rfl ?aO ?aR (fun _ _ h => h) (fun _ h => h.elim) ?aF ?aB ?aS ?aL ?_; (case aR => repeat (first | exact (Kd.C_below HR338_0.out HB.out) | (with_reducible refine Kd.C_alloc ?_ _) | (with_reducible refine Kd.C_drewN ?_ _) | (with_reducible refine Kd.C_drew ?_))); (case aB => exact (by repeat (first|(with_reducible first|exact HB.out|apply zA|apply zN|apply zD) | exact HB.out))); (case aF => exact (fun _ _ => trivial)); (case aO => exact (by (with_reducible repeat (first|apply rA|apply rN|apply rD)); exact HO_6.out)); (case aS => exact (below_size (by repeat (first|(with_reducible first|exact HB.out|apply zA|apply zN|apply zD) | exact HB.out)))); (case aL => have := LMc11.out; omega); intro v340 w12 ho hb hg hat; rw [← Ny339.out] at ho; replace HB := Aside0.mk (hb); have HO341 := Aside0.mk (ho); clear HO_6; clear ho hb hg hat))
          go_roundg k2
          case measure => have := HK1.out; have := HK2.out; omega
          case rel => exact ⟨(y339), (wrap64 (x27_2 + 1)), rG, H', ⟨by have := HK1.out; have := HK2.out; omega⟩, ⟨by (with_reducible repeat (first|apply rA|apply rN|apply rD)); exact HO341.out⟩, ⟨by repeat (first|(with_reducible first|exact HB.out|apply zA|apply zN|apply zD) | exact HB.out)⟩⟩
         ·rw [if_neg c11] at H
          exact absurd H (by simp)
        ·rw [if_neg c10] at H
         exact absurd H (by simp)
       ·rw [if_neg c9] at H
        exact absurd H (by simp)
      ·rw [if_neg c8] at H
       have c8b0 : decide (x27_2 < (l0.length : Int)) = false := decide_eq_false c8
       clear c8
       obtain rfl := Option.some.inj H
       go_wp2
       go_ret
       exact ⟨_, rE, by (with_reducible repeat (first|apply rA|apply rN|apply rD)); exact HO_6.out, by repeat (first|(with_reducible first|exact HB.out|apply zA|apply zN|apply zD) | exact HB.out)⟩

/-! ### impl_Inner: function 57 -/
def impl_Inner.f (k : Nat) (l0 : List (S80)) (l1 : List (S80)) : Option ((List (S80))) := (impl_Decl_97.f k (([l0, l1] : List (List (S80))))).bind fun t345 => (some t345)
theorem impl_Inner.calls (k : Nat) (P0_ : Nat → Prop) (A0 : Option Addr) (c0 : Nat) (l0 : List (S80)) (P1_ : Nat → Prop) (A1 : Option Addr) (c1 : Nat) (l1 : List (S80)) (r : List (S80)) (w : World) (hs0 : Kd.V k80 80 w w.heap.size (fun k_ => P0_ k_) (.slice A0 l0.length c0) l0) (hs1 : Kd.V k80 80 w w.heap.size (fun k_ => P1_ k_) (.slice A1 l1.length c1) l1) (h : impl_Inner.f k l0 l1 = some r) :
  Calls Tryz.prog 57 #[.slice A0 l0.length c0, .slice A1 l1.length c1] w fun e w' => ∃ v0_ : Value, e = .returned (v0_) ∧ Kd.R k80 80 w' w.heap.size (fun k_ => (w.heap.size ≤ k_)) v0_ r ∧ Below w.heap.size w w' := by
 have HO0 := Aside0.mk (show Kd.V k80 80 w w.heap.size (fun k_ => ((P0_ k_ ∨ P1_ k_) ∨ w.heap.size ≤ k_)) (.slice A0 l0.length c0) l0 from Kd.V_mono hs0 (fun k_ hk => .inl (.inl hk)))
 have HO1 := Aside0.mk (show Kd.V k80 80 w w.heap.size (fun k_ => ((P0_ k_ ∨ P1_ k_) ∨ w.heap.size ≤ k_)) (.slice A1 l1.length c1) l1 from Kd.V_mono hs1 (fun k_ hk => .inl (.inr hk)))
 have HB := Aside0.mk (Below.refl w.heap.size w)
 have H : ((impl_Decl_97.f k (([l0, l1] : List (List (S80))))).bind fun t345 => (some t345)) = some r := h
 clear h
 obtain ⟨y342, hy342⟩ : ∃ y_ : List (List (S80)), y_ = (([l0, l1] : List (List (S80)))) := ⟨_, rfl⟩
 replace H : ((impl_Decl_97.f k y342).bind fun t345 => (some t345)) = some r := by first | (rw [hy342]; with_reducible exact H) | (have H2_ := (Option.bind_some _ _).symm.trans H; rw [hy342]; with_reducible exact H2_) | (have H2_ := (Option.bind_some _ _).symm.trans H; with_reducible exact H2_) | with_reducible exact H | (rw [hy342]; exact H) | exact H
 have Ny342 := Aside0.mk hy342
 clear hy342
 replace H := Option.bind_eq_some_iff.mp H
 obtain ⟨t345, A30, H⟩ := H
 try dsimp only at H
 have A3 := Aside0.mk A30
 clear A30
 obtain rfl := Option.some.inj H
 go_enter Tryz.func57, Tryz.ntmps57
 go_wp2_with (first | ((with_reducible refine gate_dst (N := 7) rfl ?_); refine Kd.N_lit (Kd.slice 80 k80) _ 29 ?hg (N' := 7) ?hd (xs := ([l0, l1] : List (List (S80)))) (inner := [.slice A0 l0.length c0, .slice A1 l1.length c1]) (ok := (fun k_ => ((P0_ k_ ∨ P1_ k_) ∨ w.heap.size ≤ k_))) (okp := (fun k_ => ((P0_ k_ ∨ P1_ k_) ∨ w.heap.size ≤ k_))) ?hr ?hp (fun _ hk => hk) ((show ∀ k_, w.heap.size ≤ k_ → (fun k_ => ((P0_ k_ ∨ P1_ k_) ∨ w.heap.size ≤ k_)) k_ from fun k_ hk => (.inr (Nat.le_trans (below_size (by repeat (first|(with_reducible first|exact HB.out|apply zA|apply zN|apply zD) | exact HB.out))) hk))) _ (Nat.le_refl _)) (Below.refl _ _) (Nat.le_refl _) (by simp) ?_; (case hd => rfl); (case hg => rfl); (case hr => first | (go_simp; done) | (go_simp; rfl)); (case hp => exact (Reps.one (show Kd.FK (Kd.slice 80 k80) _ _ l0 [.slice A0 l0.length c0] from (Kd.FK_slice_mk (Kd.V_reads' (Kd.V_mono (ok' := (fun k_ => ((P0_ k_ ∨ P1_ k_) ∨ w.heap.size ≤ k_))) (HO0.out) (fun k_ hk => hk))).2.1 (Kd.V_F (Kd.V_mono (ok' := (fun k_ => ((P0_ k_ ∨ P1_ k_) ∨ w.heap.size ≤ k_))) (HO0.out) (fun k_ hk => hk))))) (Reps.one (show Kd.FK (Kd.slice 80 k80) _ _ l1 [.slice A1 l1.length c1] from (Kd.FK_slice_mk (Kd.V_reads' (Kd.V_mono (ok' := (fun k_ => ((P0_ k_ ∨ P1_ k_) ∨ w.heap.size ≤ k_))) (HO1.out) (fun k_ hk => hk))).2.1 (Kd.V_F (Kd.V_mono (ok' := (fun k_ => ((P0_ k_ ∨ P1_ k_) ∨ w.heap.size ≤ k_))) (HO1.out) (fun k_ hk => hk))))) (Reps.none _ _)))); intro v343 w4 ho5 hb hg_ hnew_; clear hg_ hnew_; (first | rw [← Ny342.out] at ho5 | (simp only [Int.reduceToNat] at ho5; rw [← Ny342.out] at ho5)); replace HO0 := Aside0.mk (Kd.V_elder' (by (with_reducible repeat (first | apply Kd.V_alloc | apply Kd.V_drewN | apply Kd.V_drew)); exact HO0.out) (Kd.N_base ho5) hb); replace HO1 := Aside0.mk (Kd.V_elder' (by (with_reducible repeat (first | apply Kd.V_alloc | apply Kd.V_drewN | apply Kd.V_drew)); exact HO1.out) (Kd.N_base ho5) hb); have HO344 := Aside0.mk (Kd.N_lower ho5 (below_size (by repeat (first|(with_reducible first|exact HB.out|apply zA|apply zN|apply zD) | exact HB.out)))); replace HB := Aside0.mk (below_step (by repeat (first|(with_reducible first|exact HB.out|apply zA|apply zN|apply zD) | exact HB.out)) hb); clear hb ho5; obtain ⟨Ao6, co6, eo6⟩ := Kd.N_slice HO344.out; subst eo6) | ((with_reducible refine gate_callee (f := 97) rfl ?_); refine goesL_ (some 8) rfl rfl Tryz.func97 (by kernel_rfl) rfl #[.slice Ao6 y342.length co6] rfl (by (try simp only [List.map_toArray, List.map_cons, List.map_nil]); first | done | rfl | (simp only [List.length_drop, List.length_take]; rfl)) ?_; (with_reducible refine (impl_Decl_97.calls k _ _ y342 t345 _ ?side1 ?side2 A3.out).mono ?_); (case side1 => repeat (first | exact (Kd.N_reads' HO344.out).2.2 | (with_reducible refine Kd.C_alloc ?_ _) | (with_reducible refine Kd.C_drewN ?_ _) | (with_reducible refine Kd.C_drew ?_))); (case side2 => exact (Kd.N_reads' HO344.out).2.1); rintro e w7 ⟨v346, rfl, ho0, hb⟩; refine ⟨_, rfl, ?_⟩; replace HO0 := Aside0.mk (Kd.V_elder' (by (with_reducible repeat (first | apply Kd.V_alloc | apply Kd.V_drewN | apply Kd.V_drew)); exact HO0.out) (Kd.R_base ho0) hb); replace HO1 := Aside0.mk (Kd.V_elder' (by (with_reducible repeat (first | apply Kd.V_alloc | apply Kd.V_drewN | apply Kd.V_drew)); exact HO1.out) (Kd.R_base ho0) hb); replace HO344 := Aside0.mk (Kd.N_elder' (by (with_reducible repeat (first | apply Kd.N_alloc | apply Kd.N_drewN | apply Kd.N_drew)); exact HO344.out) (Kd.R_base ho0) hb); have HO347 := Aside0.mk (Kd.R_lower (Kd.R_newM (M := fun k_ => (w.heap.size ≤ k_)) ho0 (below_size (by repeat (first|(with_reducible first|exact HB.out|apply zA|apply zN|apply zD) | exact HB.out))) (fun k_ h_ => h_)) (below_size (by repeat (first|(with_reducible first|exact HB.out|apply zA|apply zN|apply zD) | exact HB.out)))); replace HB := Aside0.mk (below_step (by repeat (first|(with_reducible first|exact HB.out|apply zA|apply zN|apply zD) | exact HB.out)) hb); (try clear hb); (try clear hb2); (try clear hk); (try clear hi); (try clear ho0)))
 go_ret
 exact ⟨_, rE, by (with_reducible repeat (first|apply rA|apply rN|apply rD)); exact Kd.R_mono HO347.out (fun _ hk => hk.1), by repeat (first|(with_reducible first|exact HB.out|apply zA|apply zN|apply zD) | exact HB.out)⟩

end Go.Proofs.YtlfjdaoibjjakaaGreatDoor.PT
