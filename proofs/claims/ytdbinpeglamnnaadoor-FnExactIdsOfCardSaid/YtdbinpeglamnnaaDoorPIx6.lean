-- Written by the session's program hprint.py, over the kit's print program. Lean checks it.
import Derived.Test.YtdbinpeglamnnaaDoorPIx0
import Derived.Test.YtdbinpeglamnnaaDoorPIx5
namespace Go.Proofs.YtdbinpeglamnnaaDoor.PI
open Go.RowKit Go.Proofs.YtdbinpeglamnnaaDoorW.PrintWords Go.Proofs.YtdbinpeglamnnaaDoorW.PrintLast Go.Proofs.YtdbinpeglamnnaaDoorW.PrintMore
attribute [local go_sem] max2_int min2_int max_two min_two max_three min_three max_four min_four   -- for this text's walks alone
set_option linter.unusedVariables false
set_option linter.unusedSimpArgs false
set_option maxHeartbeats 8000000
set_option maxRecDepth 100000

/-! ### impl_DefOf: function 49 -/
def impl_DefOf.p (el at_ : ByteArray) (d : S85) : Bool := (d.f0.toList == el.toList) && (d.f1.toList == at_.toList)
def impl_DefOf.f (l0 : List S85) (a1 a2 : ByteArray) : Option (ByteArray × ByteArray × Bool × Bool × ByteArray × Bool) :=
  if l0.findIdx (impl_DefOf.p a1 a2) < l0.length then some ((rd_T85 l0 (l0.findIdx (impl_DefOf.p a1 a2) : Nat)).f0, (rd_T85 l0 (l0.findIdx (impl_DefOf.p a1 a2) : Nat)).f1, (rd_T85 l0 (l0.findIdx (impl_DefOf.p a1 a2) : Nat)).f2, (rd_T85 l0 (l0.findIdx (impl_DefOf.p a1 a2) : Nat)).f3, (rd_T85 l0 (l0.findIdx (impl_DefOf.p a1 a2) : Nat)).f4, true)
  else some (⟨#[]⟩, ⟨#[]⟩, false, false, ⟨#[]⟩, false)
set_option maxHeartbeats 1000000 in
theorem impl_DefOf.lit (d : S85) (el at_ : ByteArray) (B1 B2 : Nat) (W : World) (h1 : W.cell? ⟨B1, 0, none⟩ = some (.string el)) (h2 : W.cell? ⟨B2, 0, none⟩ = some (.string at_)) :
    Calls Tryd.prog 56 #[.agg #[.string d.f0, .string d.f1, .bool d.f2, .bool d.f3, .string d.f4], .pointer (some ⟨B1, 0, none⟩), .pointer (some ⟨B2, 0, none⟩)] W
      fun e w' => e = .returned (.bool (impl_DefOf.p el at_ d)) ∧ Below W.heap.size W w' := by
  have hb1 : B1 < W.heap.size := World.block_lt_of_cell? W _ h1
  have hb2 : B2 < W.heap.size := World.block_lt_of_cell? W _ h2
  have hu := Tryd.underlying85
  unfold impl_DefOf.p
  cases hq : d.f0.toList == el.toList with
  | false =>
    go_enter Tryd.func56, Tryd.ntmps56
    go_wp2
    go_ret
    exact ⟨rfl, below_alloc (Below.refl _ _) _⟩
  | true =>
    cases hq2 : d.f1.toList == at_.toList with
    | false =>
      go_enter Tryd.func56, Tryd.ntmps56
      go_wp2
      go_ret
      exact ⟨rfl, below_alloc (Below.refl _ _) _⟩
    | true =>
      go_enter Tryd.func56, Tryd.ntmps56
      go_wp2
      go_ret
      exact ⟨rfl, below_alloc (Below.refl _ _) _⟩
theorem impl_DefOf.two (w : World) (a b : Value) (t t2 : TypeId) (o : Obj) : (((w.alloc (.cells #[a] t)).alloc (.cells #[b] t2)).alloc o).cell? ⟨w.heap.size, 0, none⟩ = some a ∧ (((w.alloc (.cells #[a] t)).alloc (.cells #[b] t2)).alloc o).cell? ⟨w.heap.size + 1, 0, none⟩ = some b := by
  constructor
  · rw [World.cell?_alloc_past _ _ _ (by simp; omega), World.cell?_alloc_past _ _ _ (by simp), World.cell?_alloc_at _ _ _ _ rfl]
    rfl
  · rw [World.cell?_alloc_past _ _ _ (by simp), World.cell?_alloc_at _ _ _ _ (by simp)]
    rfl
set_option maxHeartbeats 4000000 in
set_option maxRecDepth 100000 in
theorem impl_DefOf.calls (A0 : Option Addr) (c0 : Nat) (l0 : List (S85)) (a1 : ByteArray) (a2 : ByteArray) (r1 : ByteArray) (r2 : ByteArray) (r3 : Bool) (r4 : Bool) (r5 : ByteArray) (r6 : Bool) (w : World) (hr0 : Kd.C k85 w A0 l0.length l0) (hc0 : l0.length ≤ c0) (h : impl_DefOf.f l0 a1 a2 = some (r1, r2, r3, r4, r5, r6)) :
    Calls Tryd.prog 49 #[.slice A0 l0.length c0, .string a1, .string a2] w fun e w' => e = .returned (.tuple #[.agg #[.string r1, .string r2, .bool r3, .bool r4, .string r5], .bool r6]) ∧ Below w.heap.size w w' := by
  have hl0 : l0.length ≤ 9223372036854775807 := hr0.2.1
  have hC := fun (W : World) (hW : Below w.heap.size w W) (h1 : W.cell? ⟨w.heap.size, 0, none⟩ = some (.string a1)) (h2 : W.cell? ⟨w.heap.size + 1, 0, none⟩ = some (.string a2)) =>
    impl_Def.calls (impl_DefOf.p a1 a2) 56 #[.pointer (some ⟨w.heap.size, 0, none⟩), .pointer (some ⟨w.heap.size + 1, 0, none⟩)]
      (enters_of Tryd.func56 (by kernel_rfl) rfl) A0 c0 l0 W
      (fun W2 d hb => impl_DefOf.lit d a1 a2 _ _ W2 ((hb.cell (p := ⟨w.heap.size, 0, none⟩) (World.block_lt_of_cell? W _ h1)).trans h1) ((hb.cell (p := ⟨w.heap.size + 1, 0, none⟩) (World.block_lt_of_cell? W _ h2)).trans h2))
      (Kd.C_below hr0 hW) hl0
  have hu := Tryd.underlying85
  have HR0 := Aside0.mk hr0
  clear hr0
  unfold impl_DefOf.f at h
  unfold impl_Def.idx at hC
  by_cases hk : l0.findIdx (impl_DefOf.p a1 a2) < l0.length
  · rw [if_pos hk] at h
    simp only [if_pos hk] at hC
    generalize l0.findIdx (impl_DefOf.p a1 a2) = kk at hk h hC
    simp only [Option.some.injEq, Prod.mk.injEq] at h
    obtain ⟨rfl, rfl, rfl, rfl, rfl, rfl⟩ := h
    have hltz : (kk : Int) < (l0.length : Int) := by omega
    have hgez : ¬ (kk : Int) < 0 := by omega
    obtain ⟨ad, ead, z0, z1, z2, z3, z4⟩ := at_T85 HR0.out (kk : Int) (by omega) (by omega)
    simp only [Int.toNat_natCast] at z0 z1 z2 z3 z4
    cases ead
    generalize hd : rd_T85 l0 (kk : Int) = d at z0 z1 z2 z3 z4 ⊢
    clear hd
    go_enter Tryd.func49, Tryd.ntmps49
    go_wp2_with (go_at_call 55; (refine (hC _ ?a1 ?a2 ?a3).mono ?_; (case a1 => exact below_alloc (below_alloc (below_alloc (Below.refl _ _) _) _) _); (case a2 => exact (impl_DefOf.two w _ _ _ _ _).1); (case a3 => exact (impl_DefOf.two w _ _ _ _ _).2); rintro e w' ⟨rfl, hb⟩; have hb2 := below_then (below_alloc (below_alloc (below_alloc (Below.refl w.heap.size w) _) _) _) (by simp; omega) hb; have HB2 := Aside0.mk hb2; have BK := Aside0.mk (show w'.heap[w.heap.size + 1 + 1]? = some (.cells #[.string (⟨#[]⟩ : ByteArray), .string (⟨#[]⟩ : ByteArray), .bool false, .bool false, .string (⟨#[]⟩ : ByteArray)] 85 (0, 0)) from (hb.block (w.heap.size + 1 + 1) (by simp)).trans (by simpa using heap_alloc_new ((w.alloc (.cells #[.string a1] 9)).alloc (.cells #[.string a2] 9)) _)); have hcz0 : w'.cell? ⟨w.heap.size + 1 + 1, 0, none⟩ = some (.string (⟨#[]⟩ : ByteArray)) := (blk_cell BK.out 0).trans rfl; have hfz0 := blk_frozen BK.out 0; have hcz1 : w'.cell? ⟨w.heap.size + 1 + 1, 1, none⟩ = some (.string (⟨#[]⟩ : ByteArray)) := (blk_cell BK.out 1).trans rfl; have hfz1 := blk_frozen BK.out 1; have hcz2 : w'.cell? ⟨w.heap.size + 1 + 1, 2, none⟩ = some (.bool false) := (blk_cell BK.out 2).trans rfl; have hfz2 := blk_frozen BK.out 2; have hcz3 : w'.cell? ⟨w.heap.size + 1 + 1, 3, none⟩ = some (.bool false) := (blk_cell BK.out 3).trans rfl; have hfz3 := blk_frozen BK.out 3; have hcz4 : w'.cell? ⟨w.heap.size + 1 + 1, 4, none⟩ = some (.string (⟨#[]⟩ : ByteArray)) := (blk_cell BK.out 4).trans rfl; have hfz4 := blk_frozen BK.out 4;  replace z0 := (hb2.cell (World.block_lt_of_cell? w _ z0)).trans z0; replace z1 := (hb2.cell (World.block_lt_of_cell? w _ z1)).trans z1; replace z2 := (hb2.cell (World.block_lt_of_cell? w _ z2)).trans z2; replace z3 := (hb2.cell (World.block_lt_of_cell? w _ z3)).trans z3; replace z4 := (hb2.cell (World.block_lt_of_cell? w _ z4)).trans z4))
    refine bodyPost_ret (results_ct rfl _ _ (w.heap.size + 1 + 1) 85 #[.string d.f0, .string d.f1, .bool d.f2, .bool d.f3, .string d.f4] (0, 0) _ rfl (by refine blk_put (cs := #[.string d.f0, .string d.f1, .bool d.f2, .bool d.f3, .string (⟨#[]⟩ : ByteArray)]) ?_ 4 _ rfl; refine blk_put (cs := #[.string d.f0, .string d.f1, .bool d.f2, .bool false, .string (⟨#[]⟩ : ByteArray)]) ?_ 3 _ rfl; refine blk_put (cs := #[.string d.f0, .string d.f1, .bool false, .bool false, .string (⟨#[]⟩ : ByteArray)]) ?_ 2 _ rfl; refine blk_put (cs := #[.string d.f0, .string (⟨#[]⟩ : ByteArray), .bool false, .bool false, .string (⟨#[]⟩ : ByteArray)]) ?_ 1 _ rfl; refine blk_put (cs := #[.string (⟨#[]⟩ : ByteArray), .string (⟨#[]⟩ : ByteArray), .bool false, .bool false, .string (⟨#[]⟩ : ByteArray)]) ?_ 0 _ rfl; exact BK.out) Tryd.underlying85 rfl (by kernel_rfl)) rfl ?_
    exact ⟨rfl, below_set (below_set (below_set (below_set (below_set HB2.out (by omega)) (by omega)) (by omega)) (by omega)) (by omega)⟩
  · rw [if_neg hk] at h
    simp only [if_neg hk] at hC
    simp only [Option.some.injEq, Prod.mk.injEq] at h
    obtain ⟨rfl, rfl, rfl, rfl, rfl, rfl⟩ := h
    clear hk
    go_enter Tryd.func49, Tryd.ntmps49
    go_wp2_with (go_at_call 55; (refine (hC _ ?a1 ?a2 ?a3).mono ?_; (case a1 => exact below_alloc (below_alloc (below_alloc (Below.refl _ _) _) _) _); (case a2 => exact (impl_DefOf.two w _ _ _ _ _).1); (case a3 => exact (impl_DefOf.two w _ _ _ _ _).2); rintro e w' ⟨rfl, hb⟩; have hb2 := below_then (below_alloc (below_alloc (below_alloc (Below.refl w.heap.size w) _) _) _) (by simp; omega) hb; have HB2 := Aside0.mk hb2; have BK := Aside0.mk (show w'.heap[w.heap.size + 1 + 1]? = some (.cells #[.string (⟨#[]⟩ : ByteArray), .string (⟨#[]⟩ : ByteArray), .bool false, .bool false, .string (⟨#[]⟩ : ByteArray)] 85 (0, 0)) from (hb.block (w.heap.size + 1 + 1) (by simp)).trans (by simpa using heap_alloc_new ((w.alloc (.cells #[.string a1] 9)).alloc (.cells #[.string a2] 9)) _)); have hcz0 : w'.cell? ⟨w.heap.size + 1 + 1, 0, none⟩ = some (.string (⟨#[]⟩ : ByteArray)) := (blk_cell BK.out 0).trans rfl; have hfz0 := blk_frozen BK.out 0; have hcz1 : w'.cell? ⟨w.heap.size + 1 + 1, 1, none⟩ = some (.string (⟨#[]⟩ : ByteArray)) := (blk_cell BK.out 1).trans rfl; have hfz1 := blk_frozen BK.out 1; have hcz2 : w'.cell? ⟨w.heap.size + 1 + 1, 2, none⟩ = some (.bool false) := (blk_cell BK.out 2).trans rfl; have hfz2 := blk_frozen BK.out 2; have hcz3 : w'.cell? ⟨w.heap.size + 1 + 1, 3, none⟩ = some (.bool false) := (blk_cell BK.out 3).trans rfl; have hfz3 := blk_frozen BK.out 3; have hcz4 : w'.cell? ⟨w.heap.size + 1 + 1, 4, none⟩ = some (.string (⟨#[]⟩ : ByteArray)) := (blk_cell BK.out 4).trans rfl; have hfz4 := blk_frozen BK.out 4))
    refine bodyPost_ret (results_ct rfl _ _ (w.heap.size + 1 + 1) 85 #[.string (⟨#[]⟩ : ByteArray), .string (⟨#[]⟩ : ByteArray), .bool false, .bool false, .string (⟨#[]⟩ : ByteArray)] (0, 0) _ rfl (by refine blk_put (cs := #[.string (⟨#[]⟩ : ByteArray), .string (⟨#[]⟩ : ByteArray), .bool false, .bool false, .string (⟨#[]⟩ : ByteArray)]) ?_ 4 _ rfl; refine blk_put (cs := #[.string (⟨#[]⟩ : ByteArray), .string (⟨#[]⟩ : ByteArray), .bool false, .bool false, .string (⟨#[]⟩ : ByteArray)]) ?_ 3 _ rfl; refine blk_put (cs := #[.string (⟨#[]⟩ : ByteArray), .string (⟨#[]⟩ : ByteArray), .bool false, .bool false, .string (⟨#[]⟩ : ByteArray)]) ?_ 2 _ rfl; refine blk_put (cs := #[.string (⟨#[]⟩ : ByteArray), .string (⟨#[]⟩ : ByteArray), .bool false, .bool false, .string (⟨#[]⟩ : ByteArray)]) ?_ 1 _ rfl; refine blk_put (cs := #[.string (⟨#[]⟩ : ByteArray), .string (⟨#[]⟩ : ByteArray), .bool false, .bool false, .string (⟨#[]⟩ : ByteArray)]) ?_ 0 _ rfl; exact BK.out) Tryd.underlying85 rfl (by kernel_rfl)) rfl ?_
    exact ⟨rfl, below_set (below_set (below_set (below_set (below_set HB2.out (by omega)) (by omega)) (by omega)) (by omega)) (by omega)⟩

/-! ### impl_in: function 68 -/
def impl_in.f (a0 : Int) (a1 : Int) (a2 : Int) : Option (Bool) := if a0 ≥ a1 then (some (decide (a0 ≤ a2))) else (some false)
theorem impl_in.calls (a0 : Int) (a1 : Int) (a2 : Int) (r : Bool) (w : World) (h : impl_in.f a0 a1 a2 = some r) :
  Calls Tryd.prog 68 #[.int .i64 a0, .int .i64 a1, .int .i64 a2] w fun e w' => e = .returned (.bool r) ∧ Drawn0 w w' := by
 have H : (if a0 ≥ a1 then (some (decide (a0 ≤ a2))) else (some false)) = some r := h
 clear h
 by_cases c4 : a0 ≥ a1
 ·rw [if_pos c4] at H
  have c4b0 : decide (a1 ≤ a0) = true := decide_eq_true c4
  clear c4
  obtain rfl := Option.some.inj H
  go_enter Tryd.func68, Tryd.ntmps68
  go_wp2
  go_ret
  exact ⟨by first | rfl | (simp; done) | (simp [*]; done), by repeat (first | exact Drawn0.refl _ | apply Drawn0.step)⟩
 ·rw [if_neg c4] at H
  have c4b0 : decide (a1 ≤ a0) = false := decide_eq_false c4
  clear c4
  obtain rfl := Option.some.inj H
  go_enter Tryd.func68, Tryd.ntmps68
  go_wp2
  go_ret
  exact ⟨by first | rfl | (simp; done) | (simp [*]; done), by repeat (first | exact Drawn0.refl _ | apply Drawn0.step)⟩

/-! ### utf8_DecodeRuneInString: function 71 -/
def utf8_DecodeRuneInString.f (a0 : ByteArray) : Option (Int × Int) := some (((Lib.decodeGo a0).1 : Int), ((Lib.decodeGo a0).2 : Int))
theorem utf8_DecodeRuneInString.calls (a0 : ByteArray) (r1 : Int) (r2 : Int) (w : World) (hTab : Tabs w) (h : utf8_DecodeRuneInString.f a0 = some (r1, r2)) :
    Calls Tryd.prog 71 #[.string a0] w fun e w' => e = .returned (.tuple #[.int .i32 r1, .int .i64 r2]) ∧ Below w.heap.size w w' := by
  unfold utf8_DecodeRuneInString.f at h
  simp only [Option.some.injEq, Prod.mk.injEq] at h
  obtain ⟨rfl, rfl⟩ := h
  exact Tryd.utf8_DecodeRuneInString a0 w hTab.u8

/-! ### impl_SignAt: function 65 -/
def impl_SignAt.f (a0 : ByteArray) (a1 : Int) : Option (Int × Int × Bool) := (impl_in.f a1 0 (wrap64 ((a0.size : Int) - 1))).bind fun t250 => (if t250 = true then (if 0 ≤ a1 then (if a1 ≤ (a0.size : Int) then ((utf8_DecodeRuneInString.f (a0.extract (a1 : Int).toNat a0.size)).bind fun bt251 => (if bt251.1 = 65533 then (if bt251.2 ≤ 1 then (some (0, 0, false)) else (some (wrap64 (bt251.1), wrap64 (a1 + bt251.2), true))) else (some (wrap64 (bt251.1), wrap64 (a1 + bt251.2), true)))) else (none)) else (none)) else (some (0, 0, false)))
theorem impl_SignAt.calls (a0 : ByteArray) (a1 : Int) (r1 : Int) (r2 : Int) (r3 : Bool) (w : World) (hTab : Tabs w) (h : impl_SignAt.f a0 a1 = some (r1, r2, r3)) :
  Calls Tryd.prog 65 #[.string a0, .int .i64 a1] w fun e w' => e = .returned (.tuple #[.int .i64 r1, .int .i64 r2, .bool r3]) ∧ Below w.heap.size w w' := by
 have HT := Aside0.mk hTab
 clear hTab
 have HB := Aside0.mk (Below.refl w.heap.size w)
 have H : ((impl_in.f a1 0 (wrap64 ((a0.size : Int) - 1))).bind fun t250 => (if t250 = true then (if 0 ≤ a1 then (if a1 ≤ (a0.size : Int) then ((utf8_DecodeRuneInString.f (a0.extract (a1 : Int).toNat a0.size)).bind fun bt251 => (if bt251.1 = 65533 then (if bt251.2 ≤ 1 then (some (0, 0, false)) else (some (wrap64 (bt251.1), wrap64 (a1 + bt251.2), true))) else (some (wrap64 (bt251.1), wrap64 (a1 + bt251.2), true)))) else (none)) else (none)) else (some (0, 0, false)))) = some (r1, r2, r3) := h
 clear h
 replace H := Option.bind_eq_some_iff.mp H
 obtain ⟨t250, A30, H⟩ := H
 try dsimp only at H
 have A3 := Aside0.mk A30
 clear A30
 go_enter Tryd.func65, Tryd.ntmps65
 go_wp2_with (first | ((with_reducible refine gate_callee (f := 68) rfl ?_); refine goesL_ (some 13) rfl rfl Tryd.func68 (by kernel_rfl) rfl #[.int .i64 a1, .int .i64 0, .int .i64 (wrap64 ((a0.size : Int) - 1))] rfl mA ?_; (with_reducible refine (impl_in.calls a1 0 (wrap64 ((a0.size : Int) - 1)) t250 _ A3.out).mono ?_); rintro e w' ⟨rfl, ⟨nd, rfl⟩⟩; refine ⟨_, rfl, ?_⟩; refine halt_ ?_; intro q_ hq_))
 obtain ⟨rfl⟩ := hq_
 by_cases c4 : t250 = true
 ·subst c4
  rw [if_pos rfl] at H
  obtain ⟨c5, H⟩ := if_som H
  obtain ⟨c5b0, c5b1⟩ := fcT c5
  clear c5
  obtain ⟨c6, H⟩ := if_som H
  obtain ⟨c6b0, c6b1⟩ := fcT c6
  clear c6
  replace H := Option.bind_eq_some_iff.mp H
  obtain ⟨⟨t251, t252⟩, A70, H⟩ := H
  try dsimp only at H
  have A7 := Aside0.mk A70
  clear A70
  go_wp2_with (first | ((with_reducible refine gate_callee (f := 71) rfl ?_); refine goesL_ (some 19) rfl rfl Tryd.func71 (by kernel_rfl) rfl #[.string (a0.extract (a1 : Int).toNat a0.size)] rfl mA ?_; (with_reducible refine (utf8_DecodeRuneInString.calls (a0.extract (a1 : Int).toNat a0.size) t251 t252 _ ?tabs A7.out).mono ?_); (case tabs => first | exact Tabs.below HT.out hB | (repeat (first | exact HT.out | (with_reducible refine Tabs.drewN ?_ _) | (with_reducible refine Tabs.drew ?_) | (with_reducible refine Tabs.alloc ?_ _)))); rintro e w8 ⟨rfl, hb⟩; refine ⟨_, rfl, ?_⟩; replace HB := Aside0.mk (below_step hB hb); (try clear hb); (try clear hb2); (try clear hk); (try clear hi); refine halt_ ?_; intro q_ hq_))
  obtain ⟨rfl⟩ := hq_
  by_cases c9 : t251 = 65533
  ·rw [if_pos c9] at H
   obtain ⟨c9b0, c9b1⟩ := eqT c9
   clear c9
   by_cases c10 : t252 ≤ 1
   ·rw [if_pos c10] at H
    have c10b0 : decide (t252 ≤ 1) = true := decide_eq_true c10
    clear c10
    simp only [Option.some.injEq, Prod.mk.injEq] at H
    obtain ⟨rfl, rfl, rfl⟩ := H
    go_wp2
    go_ret3
    exact ⟨rE, hB⟩
   ·rw [if_neg c10] at H
    have c10b0 : decide (t252 ≤ 1) = false := decide_eq_false c10
    clear c10
    simp only [Option.some.injEq, Prod.mk.injEq] at H
    obtain ⟨rfl, rfl, rfl⟩ := H
    go_wp2
    go_ret3
    exact ⟨rE, hB⟩
  ·rw [if_neg c9] at H
   obtain ⟨c9b0, c9b1⟩ := eqF c9
   simp only [Option.some.injEq, Prod.mk.injEq] at H
   obtain ⟨rfl, rfl, rfl⟩ := H
   go_wp2
   go_ret3
   exact ⟨rE, hB⟩
 ·replace c4 := Bool.eq_false_iff.mpr c4
  subst c4
  rw [if_neg (show ¬ (false = true) by decide)] at H
  simp only [Option.some.injEq, Prod.mk.injEq] at H
  obtain ⟨rfl, rfl, rfl⟩ := H
  go_wp2
  go_ret3
  exact ⟨rE, hB⟩

/-! ### impl_inAny: function 72 -/
def impl_inAny.enc (p : Int × Int) : List Value := [.int .i64 p.1, .int .i64 p.2]
def impl_inAny.has (n : Int) (p : Int × Int) : Bool := decide (p.1 ≤ n) && decide (n ≤ p.2)
theorem impl_inAny.in_f (n lo hi : Int) : impl_in.f n lo hi = some (decide (lo ≤ n) && decide (n ≤ hi)) := by
  unfold impl_in.f
  by_cases h : n ≥ lo
  · rw [if_pos h]
    simp [h]
  · rw [if_neg h]
    have : ¬ lo ≤ n := h
    simp [this]
theorem impl_inAny.lit (n lo hi : Int) (B : Nat) (W : World) (hc : W.cell? ⟨B, 0, none⟩ = some (.int .i64 n)) :
    Calls Tryd.prog 76 #[.agg #[.int .i64 lo, .int .i64 hi], .pointer (some ⟨B, 0, none⟩)] W fun e w' => e = .returned (.bool (impl_inAny.has n (lo, hi))) ∧ Below W.heap.size W w' := by
  have hB : B < W.heap.size := World.block_lt_of_cell? W _ hc
  go_enter Tryd.func76, Tryd.ntmps76
  go_wp2_with (go_at_call 68; refine (impl_in.calls _ _ _ _ _ (impl_inAny.in_f _ _ _)).mono ?_; rintro e w' ⟨rfl, ⟨nd, rfl⟩⟩)
  go_ret
  exact ⟨rfl, pw_below_drewN (below_alloc (Below.refl _ _) _) _⟩
set_option maxHeartbeats 2000000 in
theorem impl_inAny.index (n : Int) (zs : List (Int × Int)) (b off c B : Nat) (w : World) (hn : zs.length ≤ 1000) (hb : b < w.heap.size) (hB : B < w.heap.size) (hc : w.cell? ⟨B, 0, none⟩ = some (.int .i64 n))
    (hz : ∀ j (p : Int × Int), zs[j]? = some p → w.cell? ⟨b, off + j * 2, none⟩ = some (.int .i64 p.1) ∧ w.cell? ⟨b, off + j * 2 + 1, none⟩ = some (.int .i64 p.2)) :
    Calls Tryd.prog 81 #[.slice (some ⟨b, off, none⟩) zs.length c, .func (.func 76) #[] #[.pointer (some ⟨B, 0, none⟩)]] w
      fun e w' => ∃ i : Int, e = .returned (.int .i64 i) ∧ decide (0 ≤ i) = zs.any (impl_inAny.has n) ∧ Below w.heap.size w w' := by
  have HZ := Aside0.mk hz
  have HC := Aside0.mk hc
  clear hz hc
  have eg : ∀ args w, (callFunc 76 args).run Tryd.prog w = .ok (.enter 76 args) w := enters_of Tryd.func76 (by kernel_rfl) rfl
  go_enter Tryd.func81, Tryd.ntmps81
  go_wp2
  go_loopg [5, 8] zs.length (fun gg _ s8 wr => ∃ kk : Nat, kk ≤ zs.length ∧ zs.length - kk ≤ gg ∧ s8 = .int .i64 kk ∧ Aside0 (Below w.heap.size w wr) ∧ Aside0 (∀ j p, j < kk → zs[j]? = some p → impl_inAny.has n p = false))
  case atStart => exact ⟨0, Nat.zero_le _, by omega, rfl, ⟨Below.refl _ w⟩, ⟨fun j p hj => absurd hj (Nat.not_lt_zero _)⟩⟩
  case round =>
    obtain ⟨kk, hkk, hg, rfl, BW, A⟩ := hrel
    by_cases hlt : kk < zs.length
    · have hltz : (kk : Int) < (zs.length : Int) := by omega
      obtain ⟨⟨lo, hi⟩, hp⟩ : ∃ p, zs[kk]? = some p := ⟨zs[kk], List.getElem?_eq_getElem hlt⟩
      have z1 : wr.cell? ⟨b, off + kk * 2, none⟩ = some (.int .i64 lo) := (BW.out.cell (p := ⟨b, off + kk * 2, none⟩) hb).trans (HZ.out kk _ hp).1
      have z2 : wr.cell? ⟨b, off + kk * 2 + 1, none⟩ = some (.int .i64 hi) := (BW.out.cell (p := ⟨b, off + kk * 2 + 1, none⟩) hb).trans (HZ.out kk _ hp).2
      have hcall := impl_inAny.lit n lo hi B wr ((BW.out.cell (p := ⟨B, 0, none⟩) hB).trans HC.out)
      have HP := Aside0.mk hp
      clear hp
      cases hq : impl_inAny.has n (lo, hi) with
      | true =>
        rw [hq] at hcall
        have HQ := Aside0.mk hq
        clear hq
        go_wp2_with (go_at_fn 76; refine hcall.mono ?_; rintro e w' ⟨rfl, hb'⟩)
        go_ret
        refine ⟨(kk : Int), rfl, ?_, BW.out.trans (hb'.mono BW.out.size)⟩
        have : zs.any (impl_inAny.has n) = true := List.any_eq_true.2 ⟨(lo, hi), List.mem_of_getElem? HP.out, HQ.out⟩
        rw [this]
        exact decide_eq_true (by omega)
      | false =>
        rw [hq] at hcall
        have HQ := Aside0.mk hq
        clear hq
        go_wp2_with (go_at_fn 76; refine hcall.mono ?_; rintro e w' ⟨rfl, hb'⟩)
        go_roundg (zs.length - (kk + 1))
        case measure => omega
        case rel =>
          refine ⟨kk + 1, by omega, by omega, by go_num, ⟨BW.out.trans (hb'.mono BW.out.size)⟩, ⟨fun j p hj hp => ?_⟩⟩
          by_cases e : j = kk
          · subst e
            rw [HP.out] at hp
            cases hp
            exact HQ.out
          · exact A.out j p (by omega) hp
    · have hltz : ¬ (kk : Int) < (zs.length : Int) := by omega
      have : kk = zs.length := by omega
      subst this
      go_wp2
      go_ret
      refine ⟨-1, rfl, ?_, BW.out⟩
      have : zs.any (impl_inAny.has n) = false := by
        rw [List.any_eq_false]
        intro p hp
        obtain ⟨j, hj⟩ := List.getElem?_of_mem hp
        rw [A.out j p (List.getElem?_eq_some_iff.1 hj).1 hj]
        simp
      rw [this]
      rfl
theorem impl_inAny.contains (n : Int) (zs : List (Int × Int)) (b off c B : Nat) (w : World) (hn : zs.length ≤ 1000) (hb : b < w.heap.size) (hB : B < w.heap.size) (hc : w.cell? ⟨B, 0, none⟩ = some (.int .i64 n))
    (hz : ∀ j (p : Int × Int), zs[j]? = some p → w.cell? ⟨b, off + j * 2, none⟩ = some (.int .i64 p.1) ∧ w.cell? ⟨b, off + j * 2 + 1, none⟩ = some (.int .i64 p.2)) :
    Calls Tryd.prog 75 #[.slice (some ⟨b, off, none⟩) zs.length c, .func (.func 76) #[] #[.pointer (some ⟨B, 0, none⟩)]] w
      fun e w' => e = .returned (.bool (zs.any (impl_inAny.has n))) ∧ Below w.heap.size w w' := by
  have h := impl_inAny.index n zs b off c B w hn hb hB hc hz
  clear hz hc
  generalize zs.any (impl_inAny.has n) = r at h ⊢
  go_enter Tryd.func75, Tryd.ntmps75
  go_wp2_with (go_at_call 81; refine h.mono ?_; rintro e w' ⟨i, rfl, hi, hb'⟩; have HI := Aside0.mk hi; clear hi)
  go_ret
  exact ⟨by rw [← HI.out]; rfl, hb'⟩
theorem impl_inAny.calls (n : Int) (zs : List (Int × Int)) (b off c : Nat) (w : World) (hn : zs.length ≤ 1000) (hb : b < w.heap.size)
    (hz : ∀ j (p : Int × Int), zs[j]? = some p → w.cell? ⟨b, off + j * 2, none⟩ = some (.int .i64 p.1) ∧ w.cell? ⟨b, off + j * 2 + 1, none⟩ = some (.int .i64 p.2)) :
    Calls Tryd.prog 72 #[.int .i64 n, .slice (some ⟨b, off, none⟩) zs.length c] w
      fun e w' => e = .returned (.bool (zs.any (impl_inAny.has n))) ∧ Below w.heap.size w w' := by
  have h := fun (W : World) (hB : w.heap.size < W.heap.size) (hc : W.cell? ⟨w.heap.size, 0, none⟩ = some (.int .i64 n)) (hW : Below w.heap.size w W) =>
    impl_inAny.contains n zs b off c w.heap.size W hn (by omega) hB hc (fun j p hj => ⟨(hW.cell (p := ⟨b, off + j * 2, none⟩) hb).trans (hz j p hj).1, (hW.cell (p := ⟨b, off + j * 2 + 1, none⟩) hb).trans (hz j p hj).2⟩)
  clear hz
  generalize zs.any (impl_inAny.has n) = r at h ⊢
  go_enter Tryd.func72, Tryd.ntmps72
  go_wp2_with (go_at_call 75; refine (h _ (by simp) (by simp) (below_alloc (Below.refl _ _) _)).mono ?_; rintro e w' ⟨rfl, hb'⟩)
  go_ret
  exact ⟨rfl, (below_alloc (Below.refl _ _) _).trans (hb'.mono (by simp))⟩
theorem impl_inAny.cells_at (zs : List (Int × Int)) : ∀ (j : Nat) (p : Int × Int), zs[j]? = some p → (zs.flatMap impl_inAny.enc)[j * 2]? = some (.int .i64 p.1) ∧ (zs.flatMap impl_inAny.enc)[j * 2 + 1]? = some (.int .i64 p.2) := by
  induction zs with
  | nil => intro j p h; simp at h
  | cons q zs ih =>
    intro j p h
    cases j with
    | zero =>
      simp at h
      subst h
      simp [impl_inAny.enc]
    | succ j =>
      have := ih j p (by simpa using h)
      rw [List.flatMap_cons, List.getElem?_append_right (by simp [impl_inAny.enc]; omega), List.getElem?_append_right (by simp [impl_inAny.enc]; omega)]
      have e1 : (j + 1) * 2 - (impl_inAny.enc q).length = j * 2 := by simp [impl_inAny.enc]; omega
      have e2 : (j + 1) * 2 + 1 - (impl_inAny.enc q).length = j * 2 + 1 := by simp [impl_inAny.enc]; omega
      rw [e1, e2]
      exact this
theorem impl_inAny.lit_calls {W : World} {B : Nat} (n : Int) (zs : List (Int × Int)) (w : World) (cs : Array Value) (T c N : Nat) (hcs : cs = (zs.flatMap impl_inAny.enc).toArray) (hN : N = zs.length) (hn : zs.length ≤ 1000) (hW : W = w.alloc (.cells cs T)) (hs : B = w.heap.size) :
    Calls Tryd.prog 72 #[.int .i64 n, .slice (some ⟨B, 0, none⟩) N c] W
      fun e w' => e = .returned (.bool (zs.any (impl_inAny.has n))) ∧ Below w.heap.size w w' := by
  subst hcs hN hW hs
  refine (impl_inAny.calls n zs w.heap.size 0 c _ hn (by simp) (fun j p hj => ?_)).mono fun e w' ⟨he, hb⟩ => ⟨he, (below_alloc (Below.refl _ _) _).trans (hb.mono (by simp))⟩
  have := impl_inAny.cells_at zs j p hj
  rw [Nat.zero_add, World.cell?_alloc_at _ _ _ _ rfl, World.cell?_alloc_at _ _ _ _ rfl]
  simpa using this

/-! ### impl_IsStart: function 66 -/
def impl_IsStart.l : List (Int × Int) := [(65, 90), (95, 95), (97, 122), (192, 214), (216, 246), (248, 767), (880, 893), (895, 8191), (8204, 8205), (8304, 8591), (11264, 12271), (12289, 55295), (63744, 64975), (65008, 65533), (65536, 983039)]
def impl_IsStart.f (a0 : Int) : Option Bool := some (impl_IsStart.l.any (impl_inAny.has a0))
set_option maxHeartbeats 2000000 in
theorem impl_IsStart.calls (a0 : Int) (r : Bool) (w : World) (h : impl_IsStart.f a0 = some r) : Calls Tryd.prog 66 #[.int .i64 a0] w fun e w' => e = .returned (.bool r) ∧ Below w.heap.size w w' := by
  have h' : impl_IsStart.l.any (impl_inAny.has a0) = r := Option.some.inj h
  have HR := Aside0.mk h'
  clear h h'
  go_enter Tryd.func66, Tryd.ntmps66
  go_wp2_with (go_at_call 72; refine (impl_inAny.lit_calls a0 impl_IsStart.l w _ _ _ _ (by rfl) (by rfl) (by decide) (by rfl) (by rfl)).mono ?_; rintro e w' ⟨rfl, hb⟩)
  go_ret
  exact ⟨by rw [← HR.out]; rfl, hb⟩

/-! ### impl_IsPart: function 67 -/
def impl_IsPart.l : List (Int × Int) := [(45, 46), (48, 57), (183, 183), (768, 879), (8255, 8256)]
def impl_IsPart.f (a0 : Int) : Option Bool := some (impl_IsStart.l.any (impl_inAny.has a0) || impl_IsPart.l.any (impl_inAny.has a0))
set_option maxHeartbeats 2000000 in
theorem impl_IsPart.calls (a0 : Int) (r : Bool) (w : World) (h : impl_IsPart.f a0 = some r) : Calls Tryd.prog 67 #[.int .i64 a0] w fun e w' => e = .returned (.bool r) ∧ Below w.heap.size w w' := by
  have h' : (impl_IsStart.l.any (impl_inAny.has a0) || impl_IsPart.l.any (impl_inAny.has a0)) = r := Option.some.inj h
  have HR := Aside0.mk h'
  clear h h'
  cases hs : impl_IsStart.l.any (impl_inAny.has a0) with
  | true =>
    have hS := impl_IsStart.calls a0 true w (by unfold impl_IsStart.f; rw [hs])
    have HS := Aside0.mk hs
    clear hs
    go_enter Tryd.func67, Tryd.ntmps67
    go_wp2_with (go_at_call 66; refine hS.mono ?_; rintro e w' ⟨rfl, hb⟩)
    go_ret
    exact ⟨by rw [← HR.out, HS.out]; rfl, hb⟩
  | false =>
    have hS := impl_IsStart.calls a0 false w (by unfold impl_IsStart.f; rw [hs])
    have HS := Aside0.mk hs
    clear hs
    go_enter Tryd.func67, Tryd.ntmps67
    go_wp2_with (first | (go_at_call 66; refine hS.mono ?_; rintro e w1 ⟨rfl, hb⟩) | (go_at_call 72; refine (impl_inAny.lit_calls a0 impl_IsPart.l _ _ _ _ _ (by rfl) (by rfl) (by decide) (by rfl) (by rfl)).mono ?_; rintro e w' ⟨rfl, hb2⟩))
    go_ret
    exact ⟨by rw [← HR.out, HS.out]; rfl, hb.trans (hb2.mono hb.size)⟩

/-! ### impl_PlainOk: function 59 -/
def impl_PlainOk.l0 : Nat → ByteArray → Int → Option (Bool)
 | 0, _, _ => none
 | k + 1, x0, x3 => if x3 < (x0.size : Int) then ((impl_SignAt.f x0 x3).bind fun bt254 => (if bt254.2.2 = true then (if x3 = 0 then ((impl_IsStart.f bt254.1).bind fun t257 => (if t257 = true then ((impl_IsPart.f bt254.1).bind fun t258 => (if t258 = true then (impl_PlainOk.l0 k x0 bt254.2.1) else (some false))) else (some false))) else ((impl_IsPart.f bt254.1).bind fun t259 => (if t259 = true then (impl_PlainOk.l0 k x0 bt254.2.1) else (some false)))) else (some false))) else ((impl_in.f (x0.size : Int) 1 16).bind fun t253 => (some t253))
def impl_PlainOk.f (k : Nat) (a0 : ByteArray) : Option (Bool) := impl_PlainOk.l0 k a0 0
theorem impl_PlainOk.calls (k : Nat) (a0 : ByteArray) (r : Bool) (w : World) (hTab : Tabs w) (h : impl_PlainOk.f k a0 = some r) :
  Calls Tryd.prog 59 #[.string a0] w fun e w' => e = .returned (.bool r) ∧ Below w.heap.size w w' := by
 have HT := Aside0.mk hTab
 clear hTab
 have HB := Aside0.mk (Below.refl w.heap.size w)
 have H : (impl_PlainOk.l0 k a0 0) = some r := h
 clear h
 have H' := Aside0.mk H
 clear H
 go_enter Tryd.func59, Tryd.ntmps59
 go_wp2
 go_loopg [3] k (fun kq v3 w' => ∃ (x3_1 : Int), v3 = .int .i64 x3_1 ∧ Aside0 (impl_PlainOk.l0 kq a0 x3_1 = some r) ∧ Aside0 (kq ≤ k) ∧ Aside0 (Below w.heap.size w w'))
 case atStart => exact ⟨(0), rG, H', ⟨Nat.le_refl _⟩, ⟨hB⟩⟩
 case round =>
  clear H'
  obtain ⟨x3_1, rfl, HA, HK1, HB⟩ := hrel
  cases gk with
  | zero => exact absurd HA.out (by simp [impl_PlainOk.l0])
  | succ k1 =>
   have H := HA.out
   clear HA
   simp only [impl_PlainOk.l0] at H
   by_cases c2 : x3_1 < (a0.size : Int)
   ·rw [if_pos c2] at H
    have c2b0 : decide (x3_1 < (a0.size : Int)) = true := decide_eq_true c2
    clear c2
    replace H := Option.bind_eq_some_iff.mp H
    obtain ⟨⟨t254, t255, t256⟩, A30, H⟩ := H
    try dsimp only at H
    have A3 := Aside0.mk A30
    clear A30
    go_wp2_with (first | ((with_reducible refine gate_callee (f := 65) rfl ?_); refine goesL_ (some 14) rfl rfl Tryd.func65 (by kernel_rfl) rfl #[.string a0, .int .i64 x3_1] rfl mA ?_; (with_reducible refine (impl_SignAt.calls a0 x3_1 t254 t255 t256 _ ?tabs A3.out).mono ?_); (case tabs => first | exact Tabs.below HT.out hB | (repeat (first | exact HT.out | (with_reducible refine Tabs.drewN ?_ _) | (with_reducible refine Tabs.drew ?_) | (with_reducible refine Tabs.alloc ?_ _)))); rintro e w4 ⟨rfl, hb⟩; refine ⟨_, rfl, ?_⟩; replace HB := Aside0.mk (below_step hB hb); (try clear hb); (try clear hb2); (try clear hk); (try clear hi); refine halt_ ?_; intro q_ hq_))
    obtain ⟨rfl⟩ := hq_
    by_cases c5 : t256 = true
    ·subst c5
     rw [if_pos rfl] at H
     by_cases c6 : x3_1 = 0
     ·rw [if_pos c6] at H
      obtain ⟨c6b0, c6b1⟩ := eqT c6
      clear c6
      replace H := Option.bind_eq_some_iff.mp H
      obtain ⟨t257, A70, H⟩ := H
      try dsimp only at H
      have A7 := Aside0.mk A70
      clear A70
      go_wp2_with (first | (go_at_call 66; (with_reducible refine (impl_IsStart.calls t254 t257 _ A7.out).mono ?_); rintro e w8 ⟨rfl, hb⟩; replace HB := Aside0.mk (below_step hB hb); (try clear hb); (try clear hb2); (try clear hk); (try clear hi); refine halt_ ?_; intro q_ hq_))
      obtain ⟨rfl⟩ := hq_
      by_cases c9 : t257 = true
      ·subst c9
       rw [if_pos rfl] at H
       replace H := Option.bind_eq_some_iff.mp H
       obtain ⟨t258, A100, H⟩ := H
       try dsimp only at H
       have A10 := Aside0.mk A100
       clear A100
       go_wp2_with (first | (go_at_call 67; (with_reducible refine (impl_IsPart.calls t254 t258 _ A10.out).mono ?_); rintro e w11 ⟨rfl, hb⟩; replace HB := Aside0.mk (below_step hB hb); (try clear hb); (try clear hb2); (try clear hk); (try clear hi); refine halt_ ?_; intro q_ hq_))
       obtain ⟨rfl⟩ := hq_
       by_cases c12 : t258 = true
       ·subst c12
        rw [if_pos rfl] at H
        have H' := Aside0.mk H
        clear H
        go_wp2
        go_roundg k1
        case measure => have := HK1.out; omega
        case rel => exact ⟨(t255), rG, H', ⟨by have := HK1.out; omega⟩, ⟨hB⟩⟩
       ·replace c12 := Bool.eq_false_iff.mpr c12
        subst c12
        rw [if_neg (show ¬ (false = true) by decide)] at H
        obtain rfl := Option.some.inj H
        go_wp2
        go_ret
        exact ⟨rE, hB⟩
      ·replace c9 := Bool.eq_false_iff.mpr c9
       subst c9
       rw [if_neg (show ¬ (false = true) by decide)] at H
       obtain rfl := Option.some.inj H
       go_wp2
       go_ret
       exact ⟨rE, hB⟩
     ·rw [if_neg c6] at H
      obtain ⟨c6b0, c6b1⟩ := eqF c6
      replace H := Option.bind_eq_some_iff.mp H
      obtain ⟨t259, A130, H⟩ := H
      try dsimp only at H
      have A13 := Aside0.mk A130
      clear A130
      go_wp2_with (first | (go_at_call 67; (with_reducible refine (impl_IsPart.calls t254 t259 _ A13.out).mono ?_); rintro e w14 ⟨rfl, hb⟩; replace HB := Aside0.mk (below_step hB hb); (try clear hb); (try clear hb2); (try clear hk); (try clear hi); refine halt_ ?_; intro q_ hq_))
      obtain ⟨rfl⟩ := hq_
      by_cases c15 : t259 = true
      ·subst c15
       rw [if_pos rfl] at H
       have H' := Aside0.mk H
       clear H
       go_wp2
       go_roundg k1
       case measure => have := HK1.out; omega
       case rel => exact ⟨(t255), rG, H', ⟨by have := HK1.out; omega⟩, ⟨hB⟩⟩
      ·replace c15 := Bool.eq_false_iff.mpr c15
       subst c15
       rw [if_neg (show ¬ (false = true) by decide)] at H
       obtain rfl := Option.some.inj H
       go_wp2
       go_ret
       exact ⟨rE, hB⟩
    ·replace c5 := Bool.eq_false_iff.mpr c5
     subst c5
     rw [if_neg (show ¬ (false = true) by decide)] at H
     obtain rfl := Option.some.inj H
     go_wp2
     go_ret
     exact ⟨rE, hB⟩
   ·rw [if_neg c2] at H
    have c2b0 : decide (x3_1 < (a0.size : Int)) = false := decide_eq_false c2
    clear c2
    replace H := Option.bind_eq_some_iff.mp H
    obtain ⟨t253, A160, H⟩ := H
    try dsimp only at H
    have A16 := Aside0.mk A160
    clear A160
    obtain rfl := Option.some.inj H
    go_wp2_with (first | ((with_reducible refine gate_callee (f := 68) rfl ?_); refine goesL_ (some 37) rfl rfl Tryd.func68 (by kernel_rfl) rfl #[.int .i64 (a0.size : Int), .int .i64 1, .int .i64 16] rfl mA ?_; (with_reducible refine (impl_in.calls (a0.size : Int) 1 16 t253 _ A16.out).mono ?_); rintro e w' ⟨rfl, ⟨nd, rfl⟩⟩; refine ⟨_, rfl, ?_⟩))
    go_ret
    exact ⟨rE, hB⟩

/-! ### strings_Cut: function 60 -/
def strings_Cut.f (a0 a1 : ByteArray) : Option (ByteArray × ByteArray × Bool) := if a0.size < 4294967281 then some (⟨(Lib.cut a0.data.toList a1.data.toList).1.toArray⟩, ⟨(Lib.cut a0.data.toList a1.data.toList).2.1.toArray⟩, (Lib.cut a0.data.toList a1.data.toList).2.2) else none
theorem strings_Cut.calls (a0 a1 : ByteArray) (r1 : ByteArray) (r2 : ByteArray) (r3 : Bool) (w : World) (hTab : Tabs w) (h : strings_Cut.f a0 a1 = some (r1, r2, r3)) :
    Calls Tryd.prog 60 #[.string a0, .string a1] w fun e w' => e = .returned (.tuple #[.string r1, .string r2, .bool r3]) ∧ Below w.heap.size w w' := by
  unfold strings_Cut.f at h
  split at h
  · rename_i hc
    simp only [Option.some.injEq, Prod.mk.injEq] at h
    obtain ⟨rfl, rfl, rfl⟩ := h
    obtain ⟨m, hm⟩ := hTab.maxlen
    exact (Tryd.strings_Cut a0 a1 m w hc hm).mono fun e w' ⟨he, n, hw⟩ => ⟨he, by subst hw; exact pw_below_drewN (Below.refl _ _) n⟩
  · cases h

/-! ### impl_SplitName: function 57 -/
def impl_SplitName.f (k : Nat) (a0 : ByteArray) : Option (ByteArray × ByteArray × Bool) := (impl_PlainOk.f k a0).bind fun t260 => (if t260 = true then (some ((⟨#[]⟩ : ByteArray), a0, true)) else ((strings_Cut.f a0 (⟨#[58]⟩ : ByteArray)).bind fun bt261 => (if bt261.2.2 = true then ((impl_PlainOk.f k bt261.1).bind fun t264 => (if t264 = true then ((impl_PlainOk.f k bt261.2.1).bind fun t265 => (if t265 = true then (some (bt261.1, bt261.2.1, true)) else (some ((⟨#[]⟩ : ByteArray), (⟨#[]⟩ : ByteArray), false)))) else (some ((⟨#[]⟩ : ByteArray), (⟨#[]⟩ : ByteArray), false)))) else (some ((⟨#[]⟩ : ByteArray), (⟨#[]⟩ : ByteArray), false)))))
theorem impl_SplitName.calls (k : Nat) (a0 : ByteArray) (r1 : ByteArray) (r2 : ByteArray) (r3 : Bool) (w : World) (hTab : Tabs w) (h : impl_SplitName.f k a0 = some (r1, r2, r3)) :
  Calls Tryd.prog 57 #[.string a0] w fun e w' => e = .returned (.tuple #[.string r1, .string r2, .bool r3]) ∧ Below w.heap.size w w' := by
 have HT := Aside0.mk hTab
 clear hTab
 have HB := Aside0.mk (Below.refl w.heap.size w)
 have H : ((impl_PlainOk.f k a0).bind fun t260 => (if t260 = true then (some ((⟨#[]⟩ : ByteArray), a0, true)) else ((strings_Cut.f a0 (⟨#[58]⟩ : ByteArray)).bind fun bt261 => (if bt261.2.2 = true then ((impl_PlainOk.f k bt261.1).bind fun t264 => (if t264 = true then ((impl_PlainOk.f k bt261.2.1).bind fun t265 => (if t265 = true then (some (bt261.1, bt261.2.1, true)) else (some ((⟨#[]⟩ : ByteArray), (⟨#[]⟩ : ByteArray), false)))) else (some ((⟨#[]⟩ : ByteArray), (⟨#[]⟩ : ByteArray), false)))) else (some ((⟨#[]⟩ : ByteArray), (⟨#[]⟩ : ByteArray), false)))))) = some (r1, r2, r3) := h
 clear h
 replace H := Option.bind_eq_some_iff.mp H
 obtain ⟨t260, A20, H⟩ := H
 try dsimp only at H
 have A2 := Aside0.mk A20
 clear A20
 go_enter Tryd.func57, Tryd.ntmps57
 go_wp2_with (first | ((with_reducible refine gate_callee (f := 59) rfl ?_); refine goesL_ (some 9) rfl rfl Tryd.func59 (by kernel_rfl) rfl #[.string a0] rfl mA ?_; (with_reducible refine (impl_PlainOk.calls k a0 t260 _ ?tabs A2.out).mono ?_); (case tabs => first | exact Tabs.below HT.out hB | (repeat (first | exact HT.out | (with_reducible refine Tabs.drewN ?_ _) | (with_reducible refine Tabs.drew ?_) | (with_reducible refine Tabs.alloc ?_ _)))); rintro e w3 ⟨rfl, hb⟩; refine ⟨_, rfl, ?_⟩; replace HB := Aside0.mk (below_step hB hb); (try clear hb); (try clear hb2); (try clear hk); (try clear hi); refine halt_ ?_; intro q_ hq_))
 obtain ⟨rfl⟩ := hq_
 by_cases c4 : t260 = true
 ·subst c4
  rw [if_pos rfl] at H
  simp only [Option.some.injEq, Prod.mk.injEq] at H
  obtain ⟨rfl, rfl, rfl⟩ := H
  go_wp2
  go_ret3
  exact ⟨rE, hB⟩
 ·replace c4 := Bool.eq_false_iff.mpr c4
  subst c4
  rw [if_neg (show ¬ (false = true) by decide)] at H
  replace H := Option.bind_eq_some_iff.mp H
  obtain ⟨⟨t261, t262, t263⟩, A50, H⟩ := H
  try dsimp only at H
  have A5 := Aside0.mk A50
  clear A50
  go_wp2_with (first | ((with_reducible refine gate_callee (f := 60) rfl ?_); refine goesL_ (some 13) rfl rfl Tryd.func60 (by kernel_rfl) rfl #[.string a0, .string (⟨#[58]⟩ : ByteArray)] rfl mA ?_; (with_reducible refine (strings_Cut.calls a0 (⟨#[58]⟩ : ByteArray) t261 t262 t263 _ ?tabs A5.out).mono ?_); (case tabs => first | exact Tabs.below HT.out hB | (repeat (first | exact HT.out | (with_reducible refine Tabs.drewN ?_ _) | (with_reducible refine Tabs.drew ?_) | (with_reducible refine Tabs.alloc ?_ _)))); rintro e w6 ⟨rfl, hb⟩; refine ⟨_, rfl, ?_⟩; replace HB := Aside0.mk (below_step hB hb); (try clear hb); (try clear hb2); (try clear hk); (try clear hi); refine halt_ ?_; intro q_ hq_))
  obtain ⟨rfl⟩ := hq_
  by_cases c7 : t263 = true
  ·subst c7
   rw [if_pos rfl] at H
   replace H := Option.bind_eq_some_iff.mp H
   obtain ⟨t264, A80, H⟩ := H
   try dsimp only at H
   have A8 := Aside0.mk A80
   clear A80
   go_wp2_with (first | (go_at_call 59; (with_reducible refine (impl_PlainOk.calls k t261 t264 _ ?tabs A8.out).mono ?_); (case tabs => first | exact Tabs.below HT.out hB | (repeat (first | exact HT.out | (with_reducible refine Tabs.drewN ?_ _) | (with_reducible refine Tabs.drew ?_) | (with_reducible refine Tabs.alloc ?_ _)))); rintro e w9 ⟨rfl, hb⟩; replace HB := Aside0.mk (below_step hB hb); (try clear hb); (try clear hb2); (try clear hk); (try clear hi); refine halt_ ?_; intro q_ hq_))
   obtain ⟨rfl⟩ := hq_
   by_cases c10 : t264 = true
   ·subst c10
    rw [if_pos rfl] at H
    replace H := Option.bind_eq_some_iff.mp H
    obtain ⟨t265, A110, H⟩ := H
    try dsimp only at H
    have A11 := Aside0.mk A110
    clear A110
    go_wp2_with (first | (go_at_call 59; (with_reducible refine (impl_PlainOk.calls k t262 t265 _ ?tabs A11.out).mono ?_); (case tabs => first | exact Tabs.below HT.out hB | (repeat (first | exact HT.out | (with_reducible refine Tabs.drewN ?_ _) | (with_reducible refine Tabs.drew ?_) | (with_reducible refine Tabs.alloc ?_ _)))); rintro e w12 ⟨rfl, hb⟩; replace HB := Aside0.mk (below_step hB hb); (try clear hb); (try clear hb2); (try clear hk); (try clear hi); refine halt_ ?_; intro q_ hq_))
    obtain ⟨rfl⟩ := hq_
    by_cases c13 : t265 = true
    ·subst c13
     rw [if_pos rfl] at H
     simp only [Option.some.injEq, Prod.mk.injEq] at H
     obtain ⟨rfl, rfl, rfl⟩ := H
     go_wp2
     go_ret3
     exact ⟨rE, hB⟩
    ·replace c13 := Bool.eq_false_iff.mpr c13
     subst c13
     rw [if_neg (show ¬ (false = true) by decide)] at H
     simp only [Option.some.injEq, Prod.mk.injEq] at H
     obtain ⟨rfl, rfl, rfl⟩ := H
     go_wp2
     go_ret3
     exact ⟨rE, hB⟩
   ·replace c10 := Bool.eq_false_iff.mpr c10
    subst c10
    rw [if_neg (show ¬ (false = true) by decide)] at H
    simp only [Option.some.injEq, Prod.mk.injEq] at H
    obtain ⟨rfl, rfl, rfl⟩ := H
    go_wp2
    go_ret3
    exact ⟨rE, hB⟩
  ·replace c7 := Bool.eq_false_iff.mpr c7
   subst c7
   rw [if_neg (show ¬ (false = true) by decide)] at H
   simp only [Option.some.injEq, Prod.mk.injEq] at H
   obtain ⟨rfl, rfl, rfl⟩ := H
   go_wp2
   go_ret3
   exact ⟨rE, hB⟩

/-! ### impl_JoinName: function 50 -/
def impl_JoinName.f (k : Nat) (a0 : ByteArray) (a1 : ByteArray) : Option (ByteArray) := if a0.toList = ([] : List UInt8) then ((impl_SplitName.f k a1).bind fun bt266 => (if bt266.2.2 = true then (if bt266.1.toList = a0.toList then (if bt266.2.1.toList = a1.toList then (some a1) else (some (⟨#[]⟩ : ByteArray))) else (some (⟨#[]⟩ : ByteArray))) else (some (⟨#[]⟩ : ByteArray)))) else (if a0.size + 1 ≤ 9223372036854775807 then (if (a0 ++ (⟨#[58]⟩ : ByteArray)).size + a1.size ≤ 9223372036854775807 then ((impl_SplitName.f k ((a0 ++ (⟨#[58]⟩ : ByteArray)) ++ a1)).bind fun bt269 => (if bt269.2.2 = true then (if bt269.1.toList = a0.toList then (if bt269.2.1.toList = a1.toList then (some ((a0 ++ (⟨#[58]⟩ : ByteArray)) ++ a1)) else (some (⟨#[]⟩ : ByteArray))) else (some (⟨#[]⟩ : ByteArray))) else (some (⟨#[]⟩ : ByteArray)))) else (none)) else (none))
theorem impl_JoinName.calls (k : Nat) (a0 : ByteArray) (a1 : ByteArray) (r : ByteArray) (w : World) (hTab : Tabs w) (h : impl_JoinName.f k a0 a1 = some r) :
  Calls Tryd.prog 50 #[.string a0, .string a1] w fun e w' => e = .returned (.string r) ∧ Below w.heap.size w w' := by
 have HT := Aside0.mk hTab
 clear hTab
 have HB := Aside0.mk (Below.refl w.heap.size w)
 have H : (if a0.toList = ([] : List UInt8) then ((impl_SplitName.f k a1).bind fun bt266 => (if bt266.2.2 = true then (if bt266.1.toList = a0.toList then (if bt266.2.1.toList = a1.toList then (some a1) else (some (⟨#[]⟩ : ByteArray))) else (some (⟨#[]⟩ : ByteArray))) else (some (⟨#[]⟩ : ByteArray)))) else (if a0.size + 1 ≤ 9223372036854775807 then (if (a0 ++ (⟨#[58]⟩ : ByteArray)).size + a1.size ≤ 9223372036854775807 then ((impl_SplitName.f k ((a0 ++ (⟨#[58]⟩ : ByteArray)) ++ a1)).bind fun bt269 => (if bt269.2.2 = true then (if bt269.1.toList = a0.toList then (if bt269.2.1.toList = a1.toList then (some ((a0 ++ (⟨#[58]⟩ : ByteArray)) ++ a1)) else (some (⟨#[]⟩ : ByteArray))) else (some (⟨#[]⟩ : ByteArray))) else (some (⟨#[]⟩ : ByteArray)))) else (none)) else (none))) = some r := h
 clear h
 by_cases c3 : a0.toList = ([] : List UInt8)
 ·rw [if_pos c3] at H
  obtain ⟨c3b0, c3b1⟩ := eqT c3
  clear c3
  replace H := Option.bind_eq_some_iff.mp H
  obtain ⟨⟨t266, t267, t268⟩, A40, H⟩ := H
  try dsimp only at H
  have A4 := Aside0.mk A40
  clear A40
  go_enter Tryd.func50, Tryd.ntmps50
  go_wp2_with (first | ((with_reducible refine gate_callee (f := 57) rfl ?_); refine goesL_ (some 18) rfl rfl Tryd.func57 (by kernel_rfl) rfl #[.string a1] rfl mA ?_; (with_reducible refine (impl_SplitName.calls k a1 t266 t267 t268 _ ?tabs A4.out).mono ?_); (case tabs => first | exact Tabs.below HT.out hB | (repeat (first | exact HT.out | (with_reducible refine Tabs.drewN ?_ _) | (with_reducible refine Tabs.drew ?_) | (with_reducible refine Tabs.alloc ?_ _)))); rintro e w5 ⟨rfl, hb⟩; refine ⟨_, rfl, ?_⟩; replace HB := Aside0.mk (below_step hB hb); (try clear hb); (try clear hb2); (try clear hk); (try clear hi); refine halt_ ?_; intro q_ hq_))
  obtain ⟨rfl⟩ := hq_
  by_cases c6 : t268 = true
  ·subst c6
   rw [if_pos rfl] at H
   by_cases c7 : t266.toList = a0.toList
   ·rw [if_pos c7] at H
    obtain ⟨c7b0, c7b1⟩ := eqT c7
    clear c7
    by_cases c8 : t267.toList = a1.toList
    ·rw [if_pos c8] at H
     obtain ⟨c8b0, c8b1⟩ := eqT c8
     clear c8
     obtain rfl := Option.some.inj H
     go_wp2
     go_ret
     exact ⟨rE, hB⟩
    ·rw [if_neg c8] at H
     obtain ⟨c8b0, c8b1⟩ := eqF c8
     obtain rfl := Option.some.inj H
     go_wp2
     go_ret
     exact ⟨rE, hB⟩
   ·rw [if_neg c7] at H
    obtain ⟨c7b0, c7b1⟩ := eqF c7
    obtain rfl := Option.some.inj H
    go_wp2
    go_ret
    exact ⟨rE, hB⟩
  ·replace c6 := Bool.eq_false_iff.mpr c6
   subst c6
   rw [if_neg (show ¬ (false = true) by decide)] at H
   obtain rfl := Option.some.inj H
   go_wp2
   go_ret
   exact ⟨rE, hB⟩
 ·rw [if_neg c3] at H
  obtain ⟨c3b0, c3b1⟩ := eqF c3
  obtain ⟨c9, H⟩ := if_som H
  obtain ⟨c9b0, c9b1⟩ := fcT c9
  try have c9b2 : (9223372036854775807 < a0.size + 1) = False := eq_false (Nat.not_lt.2 c9)
  obtain ⟨c10, H⟩ := if_som H
  obtain ⟨c10b0, c10b1⟩ := fcT c10
  try have c10b2 : (9223372036854775807 < (a0 ++ (⟨#[58]⟩ : ByteArray)).size + a1.size) = False := eq_false (Nat.not_lt.2 c10)
  replace H := Option.bind_eq_some_iff.mp H
  obtain ⟨⟨t269, t270, t271⟩, A110, H⟩ := H
  try dsimp only at H
  have A11 := Aside0.mk A110
  clear A110
  go_enter Tryd.func50, Tryd.ntmps50
  go_wp2_with (first | ((with_reducible refine gate_callee (f := 57) rfl ?_); refine goesL_ (some 18) rfl rfl Tryd.func57 (by kernel_rfl) rfl #[.string ((a0 ++ (⟨#[58]⟩ : ByteArray)) ++ a1)] rfl mA ?_; (with_reducible refine (impl_SplitName.calls k ((a0 ++ (⟨#[58]⟩ : ByteArray)) ++ a1) t269 t270 t271 _ ?tabs A11.out).mono ?_); (case tabs => first | exact Tabs.below HT.out hB | (repeat (first | exact HT.out | (with_reducible refine Tabs.drewN ?_ _) | (with_reducible refine Tabs.drew ?_) | (with_reducible refine Tabs.alloc ?_ _)))); rintro e w12 ⟨rfl, hb⟩; refine ⟨_, rfl, ?_⟩; replace HB := Aside0.mk (below_step hB hb); (try clear hb); (try clear hb2); (try clear hk); (try clear hi); refine halt_ ?_; intro q_ hq_))
  obtain ⟨rfl⟩ := hq_
  by_cases c13 : t271 = true
  ·subst c13
   rw [if_pos rfl] at H
   by_cases c14 : t269.toList = a0.toList
   ·rw [if_pos c14] at H
    obtain ⟨c14b0, c14b1⟩ := eqT c14
    clear c14
    by_cases c15 : t270.toList = a1.toList
    ·rw [if_pos c15] at H
     obtain ⟨c15b0, c15b1⟩ := eqT c15
     clear c15
     obtain rfl := Option.some.inj H
     go_wp2
     go_ret
     exact ⟨rE, hB⟩
    ·rw [if_neg c15] at H
     obtain ⟨c15b0, c15b1⟩ := eqF c15
     obtain rfl := Option.some.inj H
     go_wp2
     go_ret
     exact ⟨rE, hB⟩
   ·rw [if_neg c14] at H
    obtain ⟨c14b0, c14b1⟩ := eqF c14
    obtain rfl := Option.some.inj H
    go_wp2
    go_ret
    exact ⟨rE, hB⟩
  ·replace c13 := Bool.eq_false_iff.mpr c13
   subst c13
   rw [if_neg (show ¬ (false = true) by decide)] at H
   obtain rfl := Option.some.inj H
   go_wp2
   go_ret
   exact ⟨rE, hB⟩
end Go.Proofs.YtdbinpeglamnnaaDoor.PI
