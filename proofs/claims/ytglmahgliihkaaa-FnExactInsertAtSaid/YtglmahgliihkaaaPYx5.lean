-- Written by the session's program hprint.py, over the kit's print program. Lean checks it.
import Derived.Test.YtglmahgliihkaaaPYx0
import Derived.Test.YtglmahgliihkaaaPYx4
namespace Go.Proofs.Ytglmahgliihkaaa.PY
open Go.RowKit Go.Proofs.YtglmahgliihkaaaW.PrintWords Go.Proofs.YtglmahgliihkaaaW.PrintLast Go.Proofs.YtglmahgliihkaaaW.PrintMore
attribute [local go_sem] max2_int min2_int max_two min_two max_three min_three max_four min_four   -- for this text's walks alone
set_option linter.unusedVariables false
set_option linter.unusedSimpArgs false
set_option maxHeartbeats 8000000
set_option maxRecDepth 100000

/-! ### impl_in: function 27 -/
def impl_in.f (a0 : Int) (a1 : Int) (a2 : Int) : Option (Bool) := if a0 ≥ a1 then (some (decide (a0 ≤ a2))) else (some false)
theorem impl_in.calls (a0 : Int) (a1 : Int) (a2 : Int) (r : Bool) (w : World) (h : impl_in.f a0 a1 a2 = some r) :
  Calls Try.prog 27 #[.int .i64 a0, .int .i64 a1, .int .i64 a2] w fun e w' => e = .returned (.bool r) ∧ Drawn0 w w' := by
 have H : (if a0 ≥ a1 then (some (decide (a0 ≤ a2))) else (some false)) = some r := h
 clear h
 by_cases c4 : a0 ≥ a1
 ·rw [if_pos c4] at H
  have c4b0 : decide (a1 ≤ a0) = true := decide_eq_true c4
  clear c4
  obtain rfl := Option.some.inj H
  go_enter Try.func27, Try.ntmps27
  go_wp2
  go_ret
  exact ⟨by first | rfl | (simp; done) | (simp [*]; done), by repeat (first | exact Drawn0.refl _ | apply Drawn0.step)⟩
 ·rw [if_neg c4] at H
  have c4b0 : decide (a1 ≤ a0) = false := decide_eq_false c4
  clear c4
  obtain rfl := Option.some.inj H
  go_enter Try.func27, Try.ntmps27
  go_wp2
  go_ret
  exact ⟨by first | rfl | (simp; done) | (simp [*]; done), by repeat (first | exact Drawn0.refl _ | apply Drawn0.step)⟩

/-! ### impl_Decl: function 46 -/
/-- slices.Clone: the same elements, in a row of their own (nil stays nil). -/
def impl_Decl.f (l0 : List S69) : Option (List S69) := if l0.length < 4398046511104 then some l0 else none
set_option maxHeartbeats 1000000 in
set_option maxRecDepth 100000 in
theorem impl_Decl.calls (A0 : Option Addr) (c0 : Nat) (l0 : List (S69)) (r : List (S69)) (w : World) (hr0 : Kd.C k69 w A0 l0.length l0) (hc0 : l0.length ≤ c0) (h : impl_Decl.f l0 = some r) :
    Calls Try.prog 46 #[.slice A0 l0.length c0] w fun e w' => ∃ v0_ : Value, e = .returned (v0_) ∧ Kd.R k69 69 w' w.heap.size (fun _ => True) v0_ r ∧ Below w.heap.size w w' := by
  unfold impl_Decl.f at h
  by_cases hl : l0.length < 4398046511104
  · rw [if_pos hl] at h
    cases h
    cases A0 with
    | none =>
      have h0 : l0 = [] := by
        rcases Nat.eq_zero_or_pos l0.length with h0 | h0
        · exact List.eq_nil_of_length_eq_zero h0
        · obtain ⟨ad, e, _⟩ := hr0.2.2 h0
          cases e
      subst h0
      clear hr0 hc0 hl
      have hnil := fun W : World => Go.Lib.run_eql_slice_nil (P := Try.prog) W 30 69 none 0 c0 0 0 Try.underlying30
      go_enter Try.func46, Try.ntmps46
      go_wp2
      go_ret
      exact ⟨_, rfl, Kd.R_nil _ _ _ _ _, Below.refl _ _⟩
    | some ad =>
      have HR0 := Aside0.mk hr0
      clear hr0
      have hnil := fun W : World => Go.Lib.run_eql_slice_nil (P := Try.prog) W 30 69 (some ad) l0.length c0 0 0 Try.underlying30
      go_enter Try.func46, Try.ntmps46
      go_wp2_with (first
        | ((with_reducible refine gate_dst (N := 5) rfl ?_); refine Kd.R_lit k69 (w0 := w) w.heap.size 69 ?hg (N := 5) ?hd (xs := ([] : List S69)) (inner := []) (ok := fun _ => True) (okp := fun _ => True) ?hr ?hp (fun _ hk => hk) trivial (Below.refl _ _) (Nat.le_refl _) (by simp) ?_; (case hd => rfl); (case hg => rfl); (case hr => first | (go_simp; done) | (go_simp; rfl)); (case hp => exact (Reps.none _ _)); intro v1 w1 h1 hb1 hg1 hn1)
        | (at_builtin; refine Kd.R_append_rows k69 (w0 := w) w.heap.size rfl (.tmp 5) (.tmp 6) 30 69 (.agg #[(.string ⟨#[]⟩), (.string ⟨#[]⟩)]) 32 rfl Try.underlying30 info69 rfl (by decide) (by omega) v1 [] l0 _ _ _ (fun _ => True) (fun _ => False) rfl rfl h1 (Kd.C_below HR0.out hb1) (fun _ _ h => h) (fun _ h => h.elim) (fun _ _ => trivial) hb1 (below_size hb1) (by simp; omega) ?_; intro v2 w2 h2 hb2 hg2 hat2))
      go_ret
      exact ⟨_, rfl, h2, hb2⟩
  · rw [if_neg hl] at h
    cases h

/-! ### impl_Attr: function 47 -/
/-- slices.Clone: the same elements, in a row of their own (nil stays nil). -/
def impl_Attr.f (l0 : List S71) : Option (List S71) := if l0.length < 2199023255552 then some l0 else none
set_option maxHeartbeats 1000000 in
set_option maxRecDepth 100000 in
theorem impl_Attr.calls (A0 : Option Addr) (c0 : Nat) (l0 : List (S71)) (r : List (S71)) (w : World) (hr0 : Kd.C k71 w A0 l0.length l0) (hc0 : l0.length ≤ c0) (h : impl_Attr.f l0 = some r) :
    Calls Try.prog 47 #[.slice A0 l0.length c0] w fun e w' => ∃ v0_ : Value, e = .returned (v0_) ∧ Kd.R k71 71 w' w.heap.size (fun _ => True) v0_ r ∧ Below w.heap.size w w' := by
  unfold impl_Attr.f at h
  by_cases hl : l0.length < 2199023255552
  · rw [if_pos hl] at h
    cases h
    cases A0 with
    | none =>
      have h0 : l0 = [] := by
        rcases Nat.eq_zero_or_pos l0.length with h0 | h0
        · exact List.eq_nil_of_length_eq_zero h0
        · obtain ⟨ad, e, _⟩ := hr0.2.2 h0
          cases e
      subst h0
      clear hr0 hc0 hl
      have hnil := fun W : World => Go.Lib.run_eql_slice_nil (P := Try.prog) W 31 71 none 0 c0 0 0 Try.underlying31
      go_enter Try.func47, Try.ntmps47
      go_wp2
      go_ret
      exact ⟨_, rfl, Kd.R_nil _ _ _ _ _, Below.refl _ _⟩
    | some ad =>
      have HR0 := Aside0.mk hr0
      clear hr0
      have hnil := fun W : World => Go.Lib.run_eql_slice_nil (P := Try.prog) W 31 71 (some ad) l0.length c0 0 0 Try.underlying31
      go_enter Try.func47, Try.ntmps47
      go_wp2_with (first
        | ((with_reducible refine gate_dst (N := 5) rfl ?_); refine Kd.R_lit k71 (w0 := w) w.heap.size 71 ?hg (N := 5) ?hd (xs := ([] : List S71)) (inner := []) (ok := fun _ => True) (okp := fun _ => True) ?hr ?hp (fun _ hk => hk) trivial (Below.refl _ _) (Nat.le_refl _) (by simp) ?_; (case hd => rfl); (case hg => rfl); (case hr => first | (go_simp; done) | (go_simp; rfl)); (case hp => exact (Reps.none _ _)); intro v1 w1 h1 hb1 hg1 hn1)
        | (at_builtin; refine Kd.R_append_rows k71 (w0 := w) w.heap.size rfl (.tmp 5) (.tmp 6) 31 71 (.agg #[(.string ⟨#[]⟩), (.string ⟨#[]⟩), (.string ⟨#[]⟩), (.string ⟨#[]⟩)]) 64 rfl Try.underlying31 info71 rfl (by decide) (by omega) v1 [] l0 _ _ _ (fun _ => True) (fun _ => False) rfl rfl h1 (Kd.C_below HR0.out hb1) (fun _ _ h => h) (fun _ h => h.elim) (fun _ _ => trivial) hb1 (below_size hb1) (by simp; omega) ?_; intro v2 w2 h2 hb2 hg2 hat2))
      go_ret
      exact ⟨_, rfl, h2, hb2⟩
  · rw [if_neg hl] at h
    cases h

-- impl_cloneNode: beside impl_cloneNodes

/-! ### impl_cloneNode: function 28 -/
def impl_cloneNode.F (G_ : List (S34) → Option ((List (S34)))) (k : Nat) (a0_0 : Int) (a0_1 : ByteArray) (a0_2 : ByteArray) (a0_3 : ByteArray) (l0_4 : List (S69)) (l0_5 : List (S71)) (l0_6 : List (S34)) (a0_7 : ByteArray) : Option (Int × ByteArray × ByteArray × ByteArray × (List (S69)) × (List (S71)) × (List (S34)) × ByteArray) := (impl_Decl.f l0_4).bind fun t296 => ((impl_Attr.f l0_5).bind fun t299 => ((G_ l0_6).bind fun t302 => (some (a0_0, a0_1, a0_2, a0_3, t296, t299, t302, a0_7))))
theorem impl_cloneNode.monoF {G_ G2_ : List (S34) → Option ((List (S34)))} (hG_ : ∀ y0_, LeO (G_ y0_) (G2_ y0_)) : ∀ a0 a1 a2 a3 a4 a5 a6 a7 k, LeO (impl_cloneNode.F G_ k a0 a1 a2 a3 a4 a5 a6 a7) (impl_cloneNode.F G2_ (k + 1) a0 a1 a2 a3 a4 a5 a6 a7) := by
 intro a0 a1 a2 a3 a4 a5 a6 a7 k
 unfold impl_cloneNode.F
 repeat' first
   | (with_reducible exact hG_ _)
   | (with_reducible exact LeO.refl _)
   | (with_reducible exact LeO.none _)
   | (with_reducible refine LeO.ite ?_ ?_)
   | (with_reducible refine LeO.bind ?_ (fun _ => ?_))
   | exact hG_ _
   | exact LeO.none _
   | refine LeO.ite ?_ ?_
   | refine LeO.bind ?_ (fun _ => ?_)
def impl_cloneNode.T1 : Bool × List (List Nat × List Nat) := (true, [([], []), ([0], [0]), ([1], [1]), ([], []), ([3], [3]), ([4, 2], [4]), ([], []), ([6], [6]), ([7, 5], [7]), ([0, 1, 2, 3, 4, 6, 7], []), ([9, 2, 8, 0, 1, 2, 3, 4, 6, 7], [2, 9]), ([0, 1, 2, 3, 4, 5, 6, 7, 9, 10], []), ([11, 5, 10, 0, 1, 2, 3, 4, 5, 6, 7, 9, 10], [5, 11]), ([0, 1, 2, 3, 4, 5, 6, 7, 8, 9, 10, 11, 12], []), ([13, 8, 12, 0, 1, 2, 3, 4, 5, 6, 7, 8, 9, 10, 11, 12], [8, 13])])
def impl_cloneNode.B1 : List Nat := [0, 1, 3, 0, 8, 31, 0, 64, 255, 223, 1023, 2047, 4095, 8191, 16383]
theorem impl_cloneNode.tab1 : rtab .any (opsOf Try.f28 1) = impl_cloneNode.T1 := by kernel_rfl
theorem impl_cloneNode.bits1 : waitsOk impl_cloneNode.T1.2 impl_cloneNode.B1 = true := by kernel_rfl
theorem impl_cloneNode.callsF (G_ : List (S34) → Option ((List (S34)))) (hG_ : ∀ (A0 : Option Addr) (c0 : Nat) (l0 : List (S34)) (r : List (S34)) (w : World) (hr0 : Kd.C k34 w A0 l0.length l0) (hc0 : l0.length ≤ c0) (h : G_ l0 = some r), Calls Try.prog 48 #[.slice A0 l0.length c0] w fun e w' => ∃ v0_ : Value, e = .returned (v0_) ∧ Kd.S kD 34 w' w.heap.size (fun _ => True) v0_ r ∧ Below w.heap.size w w') (k : Nat) (a0_0 : Int) (a0_1 : ByteArray) (a0_2 : ByteArray) (a0_3 : ByteArray) (A0_4 : Option Addr) (c0_4 : Nat) (l0_4 : List (S69)) (A0_5 : Option Addr) (c0_5 : Nat) (l0_5 : List (S71)) (A0_6 : Option Addr) (c0_6 : Nat) (l0_6 : List (S34)) (a0_7 : ByteArray) (r1 : Int) (r2 : ByteArray) (r3 : ByteArray) (r4 : ByteArray) (r5 : List (S69)) (r6 : List (S71)) (r7 : List (S34)) (r8 : ByteArray) (w : World) (hr0_4 : Kd.C k69 w A0_4 l0_4.length l0_4) (hc0_4 : l0_4.length ≤ c0_4) (hr0_5 : Kd.C k71 w A0_5 l0_5.length l0_5) (hc0_5 : l0_5.length ≤ c0_5) (hr0_6 : Kd.C k34 w A0_6 l0_6.length l0_6) (hc0_6 : l0_6.length ≤ c0_6) (h : impl_cloneNode.F G_ k a0_0 a0_1 a0_2 a0_3 l0_4 l0_5 l0_6 a0_7 = some (r1, r2, r3, r4, r5, r6, r7, r8)) :
  Calls Try.prog 28 #[.agg #[.int .i64 a0_0, .string a0_1, .string a0_2, .string a0_3, .slice A0_4 l0_4.length c0_4, .slice A0_5 l0_5.length c0_5, .slice A0_6 l0_6.length c0_6, .string a0_7]] w fun e w' => ∃ v4_ v5_ v6_ : Value, e = .returned (.agg #[.int .i64 r1, .string r2, .string r3, .string r4, v4_, v5_, v6_, .string r8]) ∧ Kd.R k69 69 w' w.heap.size (fun _ => True) v4_ r5 ∧ Kd.R k71 71 w' w.heap.size (fun _ => True) v5_ r6 ∧ Kd.S kD 34 w' w.heap.size (fun k_ => some k_ ≠ (v4_ : Value).ownBlock ∧ some k_ ≠ (v5_ : Value).ownBlock) v6_ r7 ∧ Below w.heap.size w w' := by
 have hu34 := Try.underlying34
 have HR0_4 := Aside0.mk hr0_4
 have HC0_4 := Aside0.mk hc0_4
 clear hr0_4 hc0_4
 have HR0_5 := Aside0.mk hr0_5
 have HC0_5 := Aside0.mk hc0_5
 clear hr0_5 hc0_5
 have HR0_6 := Aside0.mk hr0_6
 have HC0_6 := Aside0.mk hc0_6
 clear hr0_6 hc0_6
 have HB := Aside0.mk (Below.refl w.heap.size w)
 have H : ((impl_Decl.f l0_4).bind fun t296 => ((impl_Attr.f l0_5).bind fun t299 => ((G_ l0_6).bind fun t302 => (some (a0_0, a0_1, a0_2, a0_3, t296, t299, t302, a0_7))))) = some (r1, r2, r3, r4, r5, r6, r7, r8) := h
 clear h
 replace H := Option.bind_eq_some_iff.mp H
 obtain ⟨t296, A20, H⟩ := H
 try dsimp only at H
 have A2 := Aside0.mk A20
 clear A20
 replace H := Option.bind_eq_some_iff.mp H
 obtain ⟨t299, A30, H⟩ := H
 try dsimp only at H
 have A3 := Aside0.mk A30
 clear A30
 replace H := Option.bind_eq_some_iff.mp H
 obtain ⟨t302, A40, H⟩ := H
 try dsimp only at H
 have A4 := Aside0.mk A40
 clear A40
 simp only [Option.some.injEq, Prod.mk.injEq] at H
 obtain ⟨rfl, rfl, rfl, rfl, rfl, rfl, rfl, rfl⟩ := H
 go_enter Try.func28, Try.ntmps28
 try go_wp2_with (first | ((with_reducible refine gate_dst (N := 1) rfl ?_); refine box_event ?hg (N := 1) ?hd (cs := #[.int .i64 a0_0, .string a0_1, .string a0_2, .string a0_3, .slice A0_4 l0_4.length c0_4, .slice A0_5 l0_5.length c0_5, .slice A0_6 l0_6.length c0_6, .string a0_7]) (t := 34) ?hr ?_; (case hd => rfl); (case hg => rfl); (case hr => first | (go_simp; done) | (go_simp; rfl)); intro gb294 hg w5 hbox hb; have BK294 := Aside0.mk (hbox); have GW294 := Aside0.mk ((by rw [hg]; exact (below_size hB) : w.heap.size ≤ gb294)); have GE294 := Aside0.mk ((by rw [hg]; exact (below_size hB) : w.heap.size ≤ gb294)); replace HB := Aside0.mk (below_step hB hb); clear hb hbox hg) | ((with_reducible refine gate_dst (N := 2) rfl ?_); refine box_event ?hg (N := 2) ?hd (cs := #[.int .i64 0, .string (⟨#[]⟩ : ByteArray), .string (⟨#[]⟩ : ByteArray), .string (⟨#[]⟩ : ByteArray), .slice none 0 0, .slice none 0 0, .slice none 0 0, .string (⟨#[]⟩ : ByteArray)]) (t := 34) ?hr ?_; (case hd => rfl); (case hg => rfl); (case hr => first | (go_simp; done) | (go_simp; rfl)); intro gb295 hg w6 hbox hb; have BK295 := Aside0.mk (hbox); have GW295 := Aside0.mk ((by rw [hg]; exact (below_size hB) : w.heap.size ≤ gb295)); have GE295 := Aside0.mk ((by rw [hg]; exact (below_size hB) : w.heap.size ≤ gb295)); replace HB := Aside0.mk (below_step hB hb); have NB294_295 := Aside0.mk ((by rw [hg]; exact Nat.ne_of_lt (blk_lt (g := gb294) (by (with_reducible repeat (first | refine bN ?_ _|refine bD ?_|refine bA ?_ _)); exact BK294.out)) : gb294 ≠ gb295)); have NB295_294 := Aside0.mk ((by rw [hg]; exact Nat.ne_of_gt (blk_lt (g := gb294) (by (with_reducible repeat (first | refine bN ?_ _|refine bD ?_|refine bA ?_ _)); exact BK294.out)) : gb295 ≠ gb294)); replace BK294 := Aside0.mk (blk_below (g := gb294) (by (with_reducible repeat (first | refine bN ?_ _|refine bD ?_|refine bA ?_ _)); exact BK294.out) hb); clear hb hbox hg))
 replace BK294 := Aside0.mk (blk_drew BK294.out)
 replace BK295 := Aside0.mk (blk_drew BK295.out)
 replace HB := Aside0.mk (below_drew1 HB.out)
 refine start_ (n := 15) (S := fun w' => w'.cell? ⟨gb294, 0, none⟩ = some (.int .i64 a0_0) ∧ w'.cell? ⟨gb294, 1, none⟩ = some (.string a0_1) ∧ w'.cell? ⟨gb294, 2, none⟩ = some (.string a0_2) ∧ w'.cell? ⟨gb294, 3, none⟩ = some (.string a0_3) ∧ w'.cell? ⟨gb294, 4, none⟩ = some (.slice A0_4 l0_4.length c0_4) ∧ w'.cell? ⟨gb294, 5, none⟩ = some (.slice A0_5 l0_5.length c0_5) ∧ w'.cell? ⟨gb294, 6, none⟩ = some (.slice A0_6 l0_6.length c0_6) ∧ w'.cell? ⟨gb294, 7, none⟩ = some (.string a0_7)) (ds := [10, 12, 14]) #[false, false, false, false, false, false, false, false, false, false, false, false, false, false, false] (by kernel_rfl) rfl rfl ⟨(blk_cell BK294.out 0).trans rfl, (blk_cell BK294.out 1).trans rfl, (blk_cell BK294.out 2).trans rfl, (blk_cell BK294.out 3).trans rfl, (blk_cell BK294.out 4).trans rfl, (blk_cell BK294.out 5).trans rfl, (blk_cell BK294.out 6).trans rfl, (blk_cell BK294.out 7).trans rfl⟩ (fun hHeld => ?_); refine with_tabW impl_cloneNode.tab1 impl_cloneNode.bits1 (fun HT_ HW_ => ?_)
 generalize w6.drew = w7 at BK294 BK295 HB hHeld ⊢
 refine pU 0 3 (tf 1 14) ?_
 refine pU 3 6 #[true, false, false, true, false, false, false, false, false, false, false, false, false, false, false] ?_
 refine pU 6 9 #[true, false, false, true, false, false, true, false, false, false, false, false, false, false, false] ?_
 refine take_ (i := 1) (N := some 4) (v := ?_) (a' := ?_) #[true, true, false, true, false, false, true, false, false, false, false, false, false, false, false] rfl rfl (take_ofW HT_.out HW_.out (by kernel_rfl)) (fun _ _ _ h => h) (Or.inl ⟨by rfl, ?_⟩) hHeld ?_ ?_
 rotate_left
 ·rintro w' ⟨s0, s1, s2, s3, s4, s5, s6, s7⟩
  go_simp
  with_reducible rfl
 rotate_left
 ·simp only [Act.put, sT, sZ, sS, i64_w, i32_w]
  rfl
 refine take_ (i := 4) (N := some 7) (v := ?_) (a' := ?_) #[true, true, false, true, true, false, true, false, false, false, false, false, false, false, false] rfl rfl (take_ofW HT_.out HW_.out (by kernel_rfl)) (fun _ _ _ h => h) (Or.inl ⟨by rfl, ?_⟩) hHeld ?_ ?_
 rotate_left
 ·rintro w' ⟨s0, s1, s2, s3, s4, s5, s6, s7⟩
  go_simp
  with_reducible rfl
 rotate_left
 ·simp only [Act.put, sT, sZ, sS, i64_w, i32_w]
  rfl
 refine take_ (i := 7) (N := some 10) (v := ?_) (a' := ?_) #[true, true, false, true, true, false, true, true, false, false, false, false, false, false, false] rfl rfl (take_ofW HT_.out HW_.out (by kernel_rfl)) (fun _ _ _ h => h) (Or.inl ⟨by rfl, ?_⟩) hHeld ?_ ?_
 rotate_left
 ·rintro w' ⟨s0, s1, s2, s3, s4, s5, s6, s7⟩
  go_simp
  with_reducible rfl
 rotate_left
 ·simp only [Act.put, sT, sZ, sS, i64_w, i32_w]
  rfl
 refine one_ (i := 2) (N := some 5) #[true, true, true, true, true, false, true, true, false, false, false, false, false, false, false] rfl rfl (one_of HT_.out (by kernel_rfl)) (by decide) (fun K hK => ?_)
 refine goes_ Try.func46 (by kernel_rfl) rfl #[.slice A0_4 l0_4.length c0_4] (by rfl) rfl rfl mA ?_
 with_reducible refine (impl_Decl.calls _ _ l0_4 t296 _ ?side1 ?side2 A2.out).mono ?_
 (case side1 => repeat (first | exact (Kd.C_below HR0_4.out HB.out) | (with_reducible refine Kd.C_alloc ?_ _) | (with_reducible refine Kd.C_drewN ?_ _) | (with_reducible refine Kd.C_drew ?_)))
 (case side2 => exact HC0_4.out)
 rintro e w8 ⟨v297, rfl, ho0, hb⟩
 refine ⟨_, rfl, ?_⟩
 have HO298 := Aside0.mk (Kd.R_lower ho0 (below_size hB))
 replace BK294 := Aside0.mk (blk_below (g := gb294) (by (with_reducible repeat (first | refine bN ?_ _|refine bD ?_|refine bA ?_ _)); exact BK294.out) hb)
 replace BK295 := Aside0.mk (blk_below (g := gb295) (by (with_reducible repeat (first | refine bN ?_ _|refine bD ?_|refine bA ?_ _)); exact BK295.out) hb)
 replace HB := Aside0.mk (below_step hB hb)
 (try clear hb)
 (try clear hb2)
 (try clear hk)
 (try clear hi)
 (try clear ho0)
 refine hK.out _ _ ⟨(blk_cell BK294.out 0).trans rfl, (blk_cell BK294.out 1).trans rfl, (blk_cell BK294.out 2).trans rfl, (blk_cell BK294.out 3).trans rfl, (blk_cell BK294.out 4).trans rfl, (blk_cell BK294.out 5).trans rfl, (blk_cell BK294.out 6).trans rfl, (blk_cell BK294.out 7).trans rfl⟩ (fun hHeld => ?_)
 clear hK K
 refine norm_ (a' := ?_) ?_ ?_
 rotate_left
 ·show Act.put _ (some 5) _ = _
  simp only [Act.put, sT, sZ, sS, i64_w, i32_w]
  rfl
 refine pU 9 12 #[true, true, true, true, true, false, true, true, false, true, false, false, false, false, false] ?_
 refine one_ (i := 5) (N := some 8) #[true, true, true, true, true, true, true, true, false, true, false, false, false, false, false] rfl rfl (one_of HT_.out (by kernel_rfl)) (by decide) (fun K hK => ?_)
 refine goes_ Try.func47 (by kernel_rfl) rfl #[.slice A0_5 l0_5.length c0_5] (by rfl) rfl rfl mA ?_
 with_reducible refine (impl_Attr.calls _ _ l0_5 t299 _ ?side1 ?side2 A3.out).mono ?_
 (case side1 => repeat (first | exact (Kd.C_below HR0_5.out HB.out) | (with_reducible refine Kd.C_alloc ?_ _) | (with_reducible refine Kd.C_drewN ?_ _) | (with_reducible refine Kd.C_drew ?_)))
 (case side2 => exact HC0_5.out)
 rintro e w9 ⟨v300, rfl, ho0, hb⟩
 refine ⟨_, rfl, ?_⟩
 replace HO298 := Aside0.mk (Kd.R_below (by (with_reducible repeat (first|apply rA|apply rN|apply rD|apply Kd.S_alloc|apply Kd.S_drewN|apply Kd.S_drew)); exact HO298.out) hb)
 have HO301 := Aside0.mk (Kd.R_lower ho0 (below_size hB))
 replace BK294 := Aside0.mk (blk_below (g := gb294) (by (with_reducible repeat (first | refine bN ?_ _|refine bD ?_|refine bA ?_ _)); exact BK294.out) hb)
 replace BK295 := Aside0.mk (blk_below (g := gb295) (by (with_reducible repeat (first | refine bN ?_ _|refine bD ?_|refine bA ?_ _)); exact BK295.out) hb)
 replace HB := Aside0.mk (below_step hB hb)
 (try clear hb)
 (try clear hb2)
 (try clear hk)
 (try clear hi)
 (try clear ho0)
 refine hK.out _ _ ⟨(blk_cell BK294.out 0).trans rfl, (blk_cell BK294.out 1).trans rfl, (blk_cell BK294.out 2).trans rfl, (blk_cell BK294.out 3).trans rfl, (blk_cell BK294.out 4).trans rfl, (blk_cell BK294.out 5).trans rfl, (blk_cell BK294.out 6).trans rfl, (blk_cell BK294.out 7).trans rfl⟩ (fun hHeld => ?_)
 clear hK K
 refine norm_ (a' := ?_) ?_ ?_
 rotate_left
 ·show Act.put _ (some 8) _ = _
  simp only [Act.put, sT, sZ, sS, i64_w, i32_w]
  rfl
 refine one_ (i := 8) (N := some 11) (tf 10 5) rfl rfl (one_of HT_.out (by kernel_rfl)) (by decide) (fun K hK => ?_)
 refine goes_ Try.func48 (by kernel_rfl) rfl #[.slice A0_6 l0_6.length c0_6] (by rfl) rfl rfl mA ?_
 with_reducible refine (hG_ _ _ l0_6 t302 _ ?side1 ?side2 A4.out).mono ?_
 (case side1 => repeat (first | exact (Kd.C_below HR0_6.out HB.out) | (with_reducible refine Kd.C_alloc ?_ _) | (with_reducible refine Kd.C_drewN ?_ _) | (with_reducible refine Kd.C_drew ?_)))
 (case side2 => exact HC0_6.out)
 rintro e w10 ⟨v303, rfl, ho0, hb⟩
 refine ⟨_, rfl, ?_⟩
 have HO304 := Aside0.mk (Kd.S_lower (Kd.S_newB (Kd.S_newB (Kd.S_new' (Kd.S_new' ho0 (Kd.R_lt (by (with_reducible repeat (first|apply rA|apply rN|apply rD|apply Kd.S_alloc|apply Kd.S_drewN|apply Kd.S_drew)); exact HO298.out))) (Kd.R_lt (by (with_reducible repeat (first|apply rA|apply rN|apply rD|apply Kd.S_alloc|apply Kd.S_drewN|apply Kd.S_drew)); exact HO301.out))) (g := gb294) (by (with_reducible repeat (first | refine bN ?_ _|refine bD ?_|refine bA ?_ _)); exact BK294.out)) (g := gb295) (by (with_reducible repeat (first | refine bN ?_ _|refine bD ?_|refine bA ?_ _)); exact BK295.out)) (below_size hB))
 replace HO298 := Aside0.mk (Kd.R_below (by (with_reducible repeat (first|apply rA|apply rN|apply rD|apply Kd.S_alloc|apply Kd.S_drewN|apply Kd.S_drew)); exact HO298.out) hb)
 replace HO301 := Aside0.mk (Kd.R_below (by (with_reducible repeat (first|apply rA|apply rN|apply rD|apply Kd.S_alloc|apply Kd.S_drewN|apply Kd.S_drew)); exact HO301.out) hb)
 replace BK294 := Aside0.mk (blk_below (g := gb294) (by (with_reducible repeat (first | refine bN ?_ _|refine bD ?_|refine bA ?_ _)); exact BK294.out) hb)
 replace BK295 := Aside0.mk (blk_below (g := gb295) (by (with_reducible repeat (first | refine bN ?_ _|refine bD ?_|refine bA ?_ _)); exact BK295.out) hb)
 replace HB := Aside0.mk (below_step hB hb)
 (try clear hb)
 (try clear hb2)
 (try clear hk)
 (try clear hi)
 (try clear ho0)
 obtain ⟨Ao11, co11, eo11⟩ := Kd.R_slice HO298.out
 (first | subst eo11 | (injection eo11 with f1_ f2_ f3_; have f4_ := f1_.symm; have f5_ := f3_.symm; clear f1_ f2_ f3_; subst f4_; subst f5_))
 obtain ⟨Ao13, co13, eo13⟩ := Kd.R_slice HO301.out
 (first | subst eo13 | (injection eo13 with f1_ f2_ f3_; have f4_ := f1_.symm; have f5_ := f3_.symm; clear f1_ f2_ f3_; subst f4_; subst f5_))
 obtain ⟨Ao15, co15, eo15⟩ := Kd.S_slice HO304.out
 (first | subst eo15 | (injection eo15 with f1_ f2_ f3_; have f4_ := f1_.symm; have f5_ := f3_.symm; clear f1_ f2_ f3_; subst f4_; subst f5_))
 refine hK.out _ _ ⟨(blk_cell BK294.out 0).trans rfl, (blk_cell BK294.out 1).trans rfl, (blk_cell BK294.out 2).trans rfl, (blk_cell BK294.out 3).trans rfl, (blk_cell BK294.out 4).trans rfl, (blk_cell BK294.out 5).trans rfl, (blk_cell BK294.out 6).trans rfl, (blk_cell BK294.out 7).trans rfl⟩ (fun hHeld => ?_)
 clear hK K
 refine norm_ (a' := ?_) ?_ ?_
 rotate_left
 ·show Act.put _ (some 11) _ = _
  simp only [Act.put, sT, sZ, sS, i64_w, i32_w]
  rfl
 refine last_ (i := 10) (N := none) (tf 11 4) rfl rfl (one_of HT_.out (by kernel_rfl)) (by decide) (fun K hK => ?_)
 have hs12 : w10.cell? ⟨gb294, 4, none⟩ = some (.slice A0_4 l0_4.length c0_4) := (blk_cell BK294.out 4).trans rfl
 have hfs12 := blk_frozen BK294.out 4
 have hns12_1 := NB295_294.out
 have hms12_1 := NB294_295.out
 refine skip_ (w1 := ?_) (by rfl) rfl ?_ ?_
 rotate_left
 ·go_simp
  rfl
 refine hK.out _ _ ?_
 clear hK K
 refine pU 11 13 (tf 12 3) ?_
 refine last_ (i := 12) (N := none) (tf 13 2) rfl rfl (one_of HT_.out (by kernel_rfl)) (by decide) (fun K hK => ?_)
 have hs14 : w10.cell? ⟨gb294, 5, none⟩ = some (.slice A0_5 l0_5.length c0_5) := (blk_cell BK294.out 5).trans rfl
 have hfs14 := blk_frozen BK294.out 5
 have hns14_1 := NB295_294.out
 have hms14_1 := NB294_295.out
 refine skip_ (w1 := ?_) (by rfl) rfl ?_ ?_
 rotate_left
 ·go_simp
  rfl
 refine hK.out _ _ ?_
 clear hK K
 refine pU 13 14 (tf 14 1) ?_
 refine last_ (i := 14) (N := none) (tf 15 0) rfl rfl (one_of HT_.out (by kernel_rfl)) (by decide) (fun K hK => ?_)
 have hs16 : w10.cell? ⟨gb294, 6, none⟩ = some (.slice A0_6 l0_6.length c0_6) := (blk_cell BK294.out 6).trans rfl
 have hfs16 := blk_frozen BK294.out 6
 have hns16_1 := NB295_294.out
 have hms16_1 := NB294_295.out
 refine skip_ (w1 := ?_) (by rfl) rfl ?_ ?_
 rotate_left
 ·go_simp
  rfl
 refine hK.out _ _ ?_
 clear hK K
 refine done_ (done_of HT_.out (by kernel_rfl)) ?_
 have hnb17 := NB294_295.out
 have hnc17 := NB295_294.out
 obtain ⟨hcz18_0, hcz18_1, hcz18_2, hcz18_3, hcz18_4, hcz18_5, hcz18_6, hcz18_7⟩ := bc8 BK294.out
 obtain ⟨hfz18_0, hfz18_1, hfz18_2, hfz18_3, hfz18_4, hfz18_5, hfz18_6, hfz18_7⟩ := bf8 BK294.out
 obtain ⟨hcz19_0, hcz19_1, hcz19_2, hcz19_3, hcz19_4, hcz19_5, hcz19_6, hcz19_7⟩ := bc8 BK295.out
 obtain ⟨hfz19_0, hfz19_1, hfz19_2, hfz19_3, hfz19_4, hfz19_5, hfz19_6, hfz19_7⟩ := bf8 BK295.out
 try go_wp2
 refine bodyPost_ret (results_cell_row rfl _ _ gb295 34 #[.int .i64 a0_0, .string a0_1, .string a0_2, .string a0_3, .slice Ao11 t296.length co11, .slice Ao13 t299.length co13, .slice Ao15 t302.length co15, .string a0_7] (0, 0) _ rfl (by (with_reducible repeat (first | refine bN ?_ _|refine bD ?_|refine bA ?_ _)); exact put8 (by (with_reducible repeat (first | refine bN ?_ _|refine bD ?_|refine bA ?_ _)); refine blk_far ?_ NB295_294.out _; (with_reducible repeat (first | refine bN ?_ _|refine bD ?_|refine bA ?_ _)); refine blk_far ?_ NB295_294.out _; (with_reducible repeat (first | refine bN ?_ _|refine bD ?_|refine bA ?_ _)); refine blk_far ?_ NB295_294.out _; (with_reducible repeat (first | refine bN ?_ _|refine bD ?_|refine bA ?_ _)); exact BK295.out)) Try.underlying34 rfl (by kernel_rfl)) rfl ?_
 exact ⟨_, _, _, rE, by (with_reducible repeat (first|apply rA|apply rN|apply rD|apply Kd.S_alloc|apply Kd.S_drewN|apply Kd.S_drew)); exact Kd.R_mono (Kd.R_far (p := ⟨gb295, 7, none⟩) (Kd.R_far (p := ⟨gb295, 6, none⟩) (Kd.R_far (p := ⟨gb295, 5, none⟩) (Kd.R_far (p := ⟨gb295, 4, none⟩) (Kd.R_far (p := ⟨gb295, 3, none⟩) (Kd.R_far (p := ⟨gb295, 2, none⟩) (Kd.R_far (p := ⟨gb295, 1, none⟩) (Kd.R_far (p := ⟨gb295, 0, none⟩) (Kd.R_far (p := ⟨gb294, 6, none⟩) (Kd.R_far (p := ⟨gb294, 5, none⟩) (Kd.R_far (p := ⟨gb294, 4, none⟩) (Kd.R_types (Kd.R_types HO298.out BK294.out (by decide)) BK295.out (by decide)) (fun _ hk => hk.1.2) (.slice Ao11 t296.length co11)) (fun _ hk => hk.1.2) (.slice Ao13 t299.length co13)) (fun _ hk => hk.1.2) (.slice Ao15 t302.length co15)) (fun _ hk => hk.2) (.int .i64 a0_0)) (fun _ hk => hk.2) (.string a0_1)) (fun _ hk => hk.2) (.string a0_2)) (fun _ hk => hk.2) (.string a0_3)) (fun _ hk => hk.2) (.slice Ao11 t296.length co11)) (fun _ hk => hk.2) (.slice Ao13 t299.length co13)) (fun _ hk => hk.2) (.slice Ao15 t302.length co15)) (fun _ hk => hk.2) (.string a0_7)) (fun _ hk => trivial), by (with_reducible repeat (first|apply rA|apply rN|apply rD|apply Kd.S_alloc|apply Kd.S_drewN|apply Kd.S_drew)); exact Kd.R_mono (Kd.R_far (p := ⟨gb295, 7, none⟩) (Kd.R_far (p := ⟨gb295, 6, none⟩) (Kd.R_far (p := ⟨gb295, 5, none⟩) (Kd.R_far (p := ⟨gb295, 4, none⟩) (Kd.R_far (p := ⟨gb295, 3, none⟩) (Kd.R_far (p := ⟨gb295, 2, none⟩) (Kd.R_far (p := ⟨gb295, 1, none⟩) (Kd.R_far (p := ⟨gb295, 0, none⟩) (Kd.R_far (p := ⟨gb294, 6, none⟩) (Kd.R_far (p := ⟨gb294, 5, none⟩) (Kd.R_far (p := ⟨gb294, 4, none⟩) (Kd.R_types (Kd.R_types HO301.out BK294.out (by decide)) BK295.out (by decide)) (fun _ hk => hk.1.2) (.slice Ao11 t296.length co11)) (fun _ hk => hk.1.2) (.slice Ao13 t299.length co13)) (fun _ hk => hk.1.2) (.slice Ao15 t302.length co15)) (fun _ hk => hk.2) (.int .i64 a0_0)) (fun _ hk => hk.2) (.string a0_1)) (fun _ hk => hk.2) (.string a0_2)) (fun _ hk => hk.2) (.string a0_3)) (fun _ hk => hk.2) (.slice Ao11 t296.length co11)) (fun _ hk => hk.2) (.slice Ao13 t299.length co13)) (fun _ hk => hk.2) (.slice Ao15 t302.length co15)) (fun _ hk => hk.2) (.string a0_7)) (fun _ hk => trivial), by (with_reducible repeat (first|apply rA|apply rN|apply rD|apply Kd.S_alloc|apply Kd.S_drewN|apply Kd.S_drew)); exact Kd.S_mono (Kd.S_far (p := ⟨gb295, 7, none⟩) (Kd.S_far (p := ⟨gb295, 6, none⟩) (Kd.S_far (p := ⟨gb295, 5, none⟩) (Kd.S_far (p := ⟨gb295, 4, none⟩) (Kd.S_far (p := ⟨gb295, 3, none⟩) (Kd.S_far (p := ⟨gb295, 2, none⟩) (Kd.S_far (p := ⟨gb295, 1, none⟩) (Kd.S_far (p := ⟨gb295, 0, none⟩) (Kd.S_far (p := ⟨gb294, 6, none⟩) (Kd.S_far (p := ⟨gb294, 5, none⟩) (Kd.S_far (p := ⟨gb294, 4, none⟩) (Kd.S_mono (Kd.S_mono HO304.out (fun k_ hk => (⟨hk, hk.1.2⟩ : _ ∧ k_ ≠ gb294))) (fun k_ hk => (⟨hk, hk.1.2⟩ : _ ∧ k_ ≠ gb295))) (fun _ hk => hk.1.2) (.slice Ao11 t296.length co11)) (fun _ hk => hk.1.2) (.slice Ao13 t299.length co13)) (fun _ hk => hk.1.2) (.slice Ao15 t302.length co15)) (fun _ hk => hk.2) (.int .i64 a0_0)) (fun _ hk => hk.2) (.string a0_1)) (fun _ hk => hk.2) (.string a0_2)) (fun _ hk => hk.2) (.string a0_3)) (fun _ hk => hk.2) (.slice Ao11 t296.length co11)) (fun _ hk => hk.2) (.slice Ao13 t299.length co13)) (fun _ hk => hk.2) (.slice Ao15 t302.length co15)) (fun _ hk => hk.2) (.string a0_7)) (fun _ hk => ⟨hk.1.1.1.1.1.2, hk.1.1.1.1.2⟩), hB⟩
/-! ### impl_cloneNodes: function 48 -/
mutual
def impl_cloneNodes.l0 : Nat → List (S34) → List (S34) → Int → Int → Option ((List (S34)))
 | 0, _, _, _, _ => none
 | k + 1, x3, x6, x7, x8 => if x8 < x7 then (if 0 ≤ x8 then (if x8 < (x6.length : Int) then ((impl_cloneNode.F (fun y0_ => impl_cloneNodes.f k y0_) k ((rd_T34 x6 x8).f0) ((rd_T34 x6 x8).f1) ((rd_T34 x6 x8).f2) ((rd_T34 x6 x8).f3) ((rd_T34 x6 x8).f4) ((rd_T34 x6 x8).f5) ((rd_T34 x6 x8).f6) ((rd_T34 x6 x8).f7)).bind fun bt307 => (if x3.length < 977343669134 then (impl_cloneNodes.l0 k (x3 ++ [(⟨bt307.1, bt307.2.1, bt307.2.2.1, bt307.2.2.2.1, bt307.2.2.2.2.1, bt307.2.2.2.2.2.1, bt307.2.2.2.2.2.2.1, bt307.2.2.2.2.2.2.2⟩ : S34)]) x6 x7 (wrap64 (x8 + 1))) else (none))) else (none)) else (none)) else (some x3)
def impl_cloneNodes.f : Nat → List (S34) → Option ((List (S34)))
 | 0, _ => none
 | k + 1, l0 => impl_cloneNodes.l0 k ([] : List (S34)) l0 (l0.length : Int) 0
end
theorem impl_cloneNodes.callsD (k : Nat) : ∀ (A0 : Option Addr) (c0 : Nat) (l0 : List (S34)) (r : List (S34)) (w : World) (hr0 : Kd.C k34 w A0 l0.length l0) (hc0 : l0.length ≤ c0) (h : impl_cloneNodes.f k l0 = some r),
  Calls Try.prog 48 #[.slice A0 l0.length c0] w fun e w' => ∃ v0_ : Value, e = .returned (v0_) ∧ Kd.S kD 34 w' w.heap.size (fun _ => True) v0_ r ∧ Below w.heap.size w w' := by
 induction k using Nat.strongRecOn with
 | _ k ih =>
 intro A0 c0 l0 r w hr0 hc0 h
 cases k with
 | zero => exact absurd h (by simp [impl_cloneNodes.f])
 | succ k =>
 simp only [impl_cloneNodes.f] at h
 have hu34 := Try.underlying34
 have HR0 := Aside0.mk hr0
 have HC0 := Aside0.mk hc0
 clear hr0 hc0
 have HB := Aside0.mk (Below.refl w.heap.size w)
 have H : (impl_cloneNodes.l0 k ([] : List (S34)) l0 (l0.length : Int) 0) = some r := h
 clear h
 have H' := Aside0.mk H
 clear H
 go_enter Try.func48, Try.ntmps48
 go_wp2
 go_loopg [3, 8] k (fun kq v3 v8 w' => ∃ (x3_1 : List (S34)) (x8_1 : Int), v8 = .int .i64 x8_1 ∧ Aside0 (impl_cloneNodes.l0 kq x3_1 l0 (l0.length : Int) x8_1 = some r) ∧ Aside0 (kq ≤ k) ∧ Aside0 (Kd.S kD 34 w' w.heap.size (fun _ => True) v3 x3_1) ∧ Aside0 (Below w.heap.size w w'))
 case atStart => exact ⟨(([] : List (S34))), (0), rG, H', ⟨Nat.le_refl _⟩, ⟨by first | exact Kd.S_nil _ _ _ _ _ | exact Kd.N_nil _ _ _ _ _ | exact Kd.V_nil _ _ _ _ _ | exact Kd.Q_nil _ _ _ _ _ | exact Kd.S_nil _ _ _ _ _⟩, ⟨hB⟩⟩
 case round =>
  clear H'
  obtain ⟨x3_1, x8_1, rfl, HA, HK1, HO_3, HB⟩ := hrel
  cases gk with
  | zero => exact absurd HA.out (by simp [impl_cloneNodes.l0])
  | succ k1 =>
   have H := HA.out
   clear HA
   simp only [impl_cloneNodes.l0] at H
   by_cases c2 : x8_1 < (l0.length : Int)
   ·rw [if_pos c2] at H
    have c2b0 : decide (x8_1 < (l0.length : Int)) = true := decide_eq_true c2
    clear c2
    obtain ⟨c3, H⟩ := if_som H
    have c3b0 : decide (0 ≤ x8_1) = true := decide_eq_true c3
    clear c3
    obtain ⟨c4, H⟩ := if_som H
    have c4b0 : decide (x8_1 < (l0.length : Int)) = true := decide_eq_true c4
    clear c4
    replace H := Option.bind_eq_some_iff.mp H
    obtain ⟨⟨t307, t308, t309, t310, t311, t314, t317, t320⟩, A50, H⟩ := H
    try dsimp only at H
    have A5 := Aside0.mk A50
    clear A50
    obtain ⟨c6, H⟩ := if_som H
    have LMc6 := Aside0.mk c6
    clear c6
    obtain ⟨y321, hy321⟩ : ∃ y_ : List (S34), y_ = (x3_1 ++ [(⟨t307, t308, t309, t310, t311, t314, t317, t320⟩ : S34)]) := ⟨_, rfl⟩
    replace H : (impl_cloneNodes.l0 k1 y321 l0 (l0.length : Int) (wrap64 (x8_1 + 1))) = some r := by first | (rw [hy321]; with_reducible exact H) | (have H2_ := (Option.bind_some _ _).symm.trans H; rw [hy321]; with_reducible exact H2_) | (have H2_ := (Option.bind_some _ _).symm.trans H; with_reducible exact H2_) | with_reducible exact H | (rw [hy321]; exact H) | exact H
    have Ny321 := Aside0.mk hy321
    clear hy321
    have H' := Aside0.mk H
    clear H
    have p305 : 0 ≤ (x8_1 : Int) := odt
    have q305 : x8_1 < (l0.length : Int) := odt
    obtain ⟨ad305, A305_4, c305_4, A305_5, c305_5, A305_6, c305_6, e305, hx305_0, hx305_1, hx305_2, hx305_3, hx305_4, hx305_5, hx305_6, hx305_7, hl305_4, hi305_4, hl305_5, hi305_5, hl305_6, hi305_6⟩ := at_T34 HR0.out x8_1 p305 q305
    cases e305
    replace hx305_0 := pw_cell_below HB.out hx305_0
    replace hx305_1 := pw_cell_below HB.out hx305_1
    replace hx305_2 := pw_cell_below HB.out hx305_2
    replace hx305_3 := pw_cell_below HB.out hx305_3
    replace hx305_4 := pw_cell_below HB.out hx305_4
    replace hx305_5 := pw_cell_below HB.out hx305_5
    replace hx305_6 := pw_cell_below HB.out hx305_6
    replace hx305_7 := pw_cell_below HB.out hx305_7
    have HR305_4 := Aside0.mk hi305_4
    have HC305_4 := Aside0.mk hl305_4
    clear hi305_4 hl305_4
    have HR305_5 := Aside0.mk hi305_5
    have HC305_5 := Aside0.mk hl305_5
    clear hi305_5 hl305_5
    have HR305_6 := Aside0.mk hi305_6
    have HC305_6 := Aside0.mk hl305_6
    clear hi305_6 hl305_6
    replace p305 := eq_true p305
    replace q305 := eq_true q305
    go_wp2_with (first | ((with_reducible refine gate_dst (N := 5) rfl ?_); refine box_event ?hg (N := 5) ?hd (cs := #[.int .i64 0, .string (⟨#[]⟩ : ByteArray), .string (⟨#[]⟩ : ByteArray), .string (⟨#[]⟩ : ByteArray), .slice none 0 0, .slice none 0 0, .slice none 0 0, .string (⟨#[]⟩ : ByteArray)]) (t := 34) ?hr ?_; (case hd => rfl); (case hg => rfl); (case hr => first | (go_simp; done) | (go_simp; rfl)); intro gb306 hg w7 hbox hb; replace HO_3 := Aside0.mk (Kd.S_below (Kd.S_elderB (by (with_reducible repeat (first|apply rA|apply rN|apply rD|apply Kd.S_alloc|apply Kd.S_drewN|apply Kd.S_drew)); exact HO_3.out) gb306 (Nat.le_of_eq hg.symm)) hb); have BK306 := Aside0.mk (hbox); have GW306 := Aside0.mk ((by rw [hg]; exact (below_size hB) : w.heap.size ≤ gb306)); have GE306 := Aside0.mk ((by rw [hg]; exact (below_size hB) : w.heap.size ≤ gb306)); replace HB := Aside0.mk (below_step hB hb); clear hb hbox hg; obtain ⟨hcz8_0, hcz8_1, hcz8_2, hcz8_3, hcz8_4, hcz8_5, hcz8_6, hcz8_7⟩ := bc8 BK306.out; obtain ⟨hfz8_0, hfz8_1, hfz8_2, hfz8_3, hfz8_4, hfz8_5, hfz8_6, hfz8_7⟩ := bf8 BK306.out) | ((with_reducible refine gate_callee (f := 28) rfl ?_); refine goesL_ (some 14) rfl rfl Try.func28 (by kernel_rfl) rfl #[.agg #[.int .i64 ((rd_T34 l0 x8_1).f0), .string ((rd_T34 l0 x8_1).f1), .string ((rd_T34 l0 x8_1).f2), .string ((rd_T34 l0 x8_1).f3), .slice A305_4 ((rd_T34 l0 x8_1).f4).length c305_4, .slice A305_5 ((rd_T34 l0 x8_1).f5).length c305_5, .slice A305_6 ((rd_T34 l0 x8_1).f6).length c305_6, .string ((rd_T34 l0 x8_1).f7)]] rfl mA ?_; (with_reducible refine (impl_cloneNode.callsF (impl_cloneNodes.f k1) (ih k1 (by first | omega | (have := HK1.out; omega))) k1 ((rd_T34 l0 x8_1).f0) ((rd_T34 l0 x8_1).f1) ((rd_T34 l0 x8_1).f2) ((rd_T34 l0 x8_1).f3) _ _ ((rd_T34 l0 x8_1).f4) _ _ ((rd_T34 l0 x8_1).f5) _ _ ((rd_T34 l0 x8_1).f6) ((rd_T34 l0 x8_1).f7) t307 t308 t309 t310 t311 t314 t317 t320 _ ?side1 ?side2 ?side3 ?side4 ?side5 ?side6 A5.out).mono ?_); (case side1 => exact Kd.C_below HR305_4.out hB); (case side2 => exact HC305_4.out); (case side3 => exact Kd.C_below HR305_5.out hB); (case side4 => exact HC305_5.out); (case side5 => exact Kd.C_below HR305_6.out hB); (case side6 => exact HC305_6.out); rintro e w9 ⟨v312, v315, v318, rfl, ho0, ho1, ho2, hb⟩; refine ⟨_, rfl, ?_⟩; obtain ⟨N_, hNb, hN0, hN1, hN2, hN3⟩ : ∃ N : Nat, w.heap.size ≤ N ∧ Kd.R k69 69 w9 N (fun _ => True) v312 t311 ∧ Kd.R k71 71 w9 N (fun _ => True) v315 t314 ∧ Kd.S kD 34 w9 N (fun k_ => some k_ ≠ (v312 : Value).ownBlock ∧ some k_ ≠ (v315 : Value).ownBlock) v318 t317 ∧ Kd.S kD 34 w9 w.heap.size (fun k_ => k_ < N) u3 x3_1 := ⟨_, below_size hB, ho0, ho1, ho2, Kd.S_mono (Kd.S_old (by (with_reducible repeat (first|apply rA|apply rN|apply rD|apply Kd.S_alloc|apply Kd.S_drewN|apply Kd.S_drew)); exact (Kd.S_mono (Kd.S_far (p := ⟨gb306, 7, none⟩) (Kd.S_far (p := ⟨gb306, 6, none⟩) (Kd.S_far (p := ⟨gb306, 5, none⟩) (Kd.S_far (p := ⟨gb306, 4, none⟩) (Kd.S_far (p := ⟨gb306, 3, none⟩) (Kd.S_far (p := ⟨gb306, 2, none⟩) (Kd.S_far (p := ⟨gb306, 1, none⟩) (Kd.S_far (p := ⟨gb306, 0, none⟩) (Kd.S_mono HO_3.out (fun k_ hk => (⟨hk, hk.2⟩ : _ ∧ k_ ≠ gb306))) (fun _ hk => hk.2) (.int .i64 ((rd_T34 l0 x8_1).f0))) (fun _ hk => hk.2) (.string ((rd_T34 l0 x8_1).f1))) (fun _ hk => hk.2) (.string ((rd_T34 l0 x8_1).f2))) (fun _ hk => hk.2) (.string ((rd_T34 l0 x8_1).f3))) (fun _ hk => hk.2) (.slice A305_4 ((rd_T34 l0 x8_1).f4).length c305_4)) (fun _ hk => hk.2) (.slice A305_5 ((rd_T34 l0 x8_1).f5).length c305_5)) (fun _ hk => hk.2) (.slice A305_6 ((rd_T34 l0 x8_1).f6).length c305_6)) (fun _ hk => hk.2) (.string ((rd_T34 l0 x8_1).f7))) (fun _ h_ => h_.1))) hb) (fun _ h_ => h_.2)⟩; have HN_ := Aside0.mk (And.intro hNb (And.intro hN0 (And.intro hN1 (And.intro hN2 hN3)))); clear hNb hN0 hN1 hN2 hN3; have HO313 := Aside0.mk (Kd.R_lower ho0 (below_size hB)); have HO316 := Aside0.mk (Kd.R_lower ho1 (below_size hB)); have HO319 := Aside0.mk (Kd.S_lower (Kd.S_newB (Kd.S_new' ho2 (Kd.S_lt (by (with_reducible repeat (first|apply rA|apply rN|apply rD|apply Kd.S_alloc|apply Kd.S_drewN|apply Kd.S_drew)); exact (Kd.S_mono (Kd.S_far (p := ⟨gb306, 7, none⟩) (Kd.S_far (p := ⟨gb306, 6, none⟩) (Kd.S_far (p := ⟨gb306, 5, none⟩) (Kd.S_far (p := ⟨gb306, 4, none⟩) (Kd.S_far (p := ⟨gb306, 3, none⟩) (Kd.S_far (p := ⟨gb306, 2, none⟩) (Kd.S_far (p := ⟨gb306, 1, none⟩) (Kd.S_far (p := ⟨gb306, 0, none⟩) (Kd.S_mono HO_3.out (fun k_ hk => (⟨hk, hk.2⟩ : _ ∧ k_ ≠ gb306))) (fun _ hk => hk.2) (.int .i64 ((rd_T34 l0 x8_1).f0))) (fun _ hk => hk.2) (.string ((rd_T34 l0 x8_1).f1))) (fun _ hk => hk.2) (.string ((rd_T34 l0 x8_1).f2))) (fun _ hk => hk.2) (.string ((rd_T34 l0 x8_1).f3))) (fun _ hk => hk.2) (.slice A305_4 ((rd_T34 l0 x8_1).f4).length c305_4)) (fun _ hk => hk.2) (.slice A305_5 ((rd_T34 l0 x8_1).f5).length c305_5)) (fun _ hk => hk.2) (.slice A305_6 ((rd_T34 l0 x8_1).f6).length c305_6)) (fun _ hk => hk.2) (.string ((rd_T34 l0 x8_1).f7))) (fun _ h_ => h_.1))))) (g := gb306) (by (with_reducible repeat (first | refine bN ?_ _|refine bD ?_|refine bA ?_ _)); exact put8 (by (with_reducible repeat (first | refine bN ?_ _|refine bD ?_|refine bA ?_ _)); exact BK306.out))) (below_size hB)); replace HO_3 := Aside0.mk (Kd.S_mono (Kd.S_told (Kd.S_told (Kd.S_told (Kd.S_old (by (with_reducible repeat (first|apply rA|apply rN|apply rD|apply Kd.S_alloc|apply Kd.S_drewN|apply Kd.S_drew)); exact (Kd.S_mono (Kd.S_far (p := ⟨gb306, 7, none⟩) (Kd.S_far (p := ⟨gb306, 6, none⟩) (Kd.S_far (p := ⟨gb306, 5, none⟩) (Kd.S_far (p := ⟨gb306, 4, none⟩) (Kd.S_far (p := ⟨gb306, 3, none⟩) (Kd.S_far (p := ⟨gb306, 2, none⟩) (Kd.S_far (p := ⟨gb306, 1, none⟩) (Kd.S_far (p := ⟨gb306, 0, none⟩) (Kd.S_mono HO_3.out (fun k_ hk => (⟨hk, hk.2⟩ : _ ∧ k_ ≠ gb306))) (fun _ hk => hk.2) (.int .i64 ((rd_T34 l0 x8_1).f0))) (fun _ hk => hk.2) (.string ((rd_T34 l0 x8_1).f1))) (fun _ hk => hk.2) (.string ((rd_T34 l0 x8_1).f2))) (fun _ hk => hk.2) (.string ((rd_T34 l0 x8_1).f3))) (fun _ hk => hk.2) (.slice A305_4 ((rd_T34 l0 x8_1).f4).length c305_4)) (fun _ hk => hk.2) (.slice A305_5 ((rd_T34 l0 x8_1).f5).length c305_5)) (fun _ hk => hk.2) (.slice A305_6 ((rd_T34 l0 x8_1).f6).length c305_6)) (fun _ hk => hk.2) (.string ((rd_T34 l0 x8_1).f7))) (fun _ h_ => h_.1))) hb) (Kd.R_base ho0)) (Kd.R_base ho1)) (Kd.S_base ho2)) (fun _ h_ => h_.1)); replace BK306 := Aside0.mk (blk_below (g := gb306) (by (with_reducible repeat (first | refine bN ?_ _|refine bD ?_|refine bA ?_ _)); exact put8 (by (with_reducible repeat (first | refine bN ?_ _|refine bD ?_|refine bA ?_ _)); exact BK306.out)) hb); replace HB := Aside0.mk (below_step hB hb); (try clear hb); (try clear hb2); (try clear hk); (try clear hi); (try clear ho0); (try clear ho1); (try clear ho2); obtain ⟨Ao11, co11, eo11⟩ := Kd.R_slice HO313.out; subst eo11; obtain ⟨Ao12, co12, eo12⟩ := Kd.R_slice HO316.out; subst eo12; obtain ⟨Ao13, co13, eo13⟩ := Kd.S_slice HO319.out; subst eo13) | ((with_reducible refine gate_builtin (b := .append) (xs := #[.tmp 12, .tmp 15]) rfl ?_); at_builtin; refine Kd.S_append kD (w0 := w) w.heap.size rfl (.tmp 12) (.tmp 15) 32 34 (.agg #[(.int .i64 0), (.string ⟨#[]⟩), (.string ⟨#[]⟩), (.string ⟨#[]⟩), (.slice none 0 0), (.slice none 0 0), (.slice none 0 0), (.string ⟨#[]⟩)]) 144 rfl Try.underlying32 info34 rfl (by decide) (by omega) u3 x3_1 (⟨t307, t308, t309, t310, t311, t314, t317, t320⟩ : S34) [.int .i64 t307, .string t308, .string t309, .string t310, .slice Ao11 t311.length co11, .slice Ao12 t314.length co12, .slice Ao13 t317.length co13, .string t320] (fun _ => True) (fun k_ => N_ ≤ k_) rfl rfl ?aP (fun k_ hk_ => ⟨trivial, fun e_ => Nat.not_lt.2 hk_ ((Kd.S_R HN_.out.2.2.2.2).1 k_ e_.symm)⟩) ?aF ?aO ?aB ?aS ?aL ?_; (case aP => exact kD_elemM HN_.out.1 (⟨t307, t308, t309, t310, t311, t314, t317, t320⟩ : S34) HN_.out.2.1 HN_.out.2.2.1 HN_.out.2.2.2.1); (case aB => exact hB); (case aF => exact fun _ _ => trivial); (case aO => exact Kd.S_mono HN_.out.2.2.2.2 (fun k_ hk_ => ⟨trivial, Nat.not_le.2 hk_⟩)); (case aS => exact (below_size hB)); (case aL => have := LMc6.out; omega); intro v322 w10 ho hb hg hat; rw [← Ny321.out] at ho; replace BK306 := Aside0.mk (blk_grown (g := gb306) (by (with_reducible repeat (first | refine bN ?_ _|refine bD ?_|refine bA ?_ _)); exact BK306.out) hg (Kd.S_away HO_3.out (fun _ hk => hk.1.1.1.2))); replace HB := Aside0.mk (hb); have HO323 := Aside0.mk (ho); clear HO_3; clear HO313; clear HO316; clear HO319; clear ho hb hg hat))
    go_roundg k1
    case measure => have := HK1.out; omega
    case rel => exact ⟨(y321), (wrap64 (x8_1 + 1)), rG, H', ⟨by have := HK1.out; omega⟩, ⟨by (with_reducible repeat (first|apply rA|apply rN|apply rD|apply Kd.S_alloc|apply Kd.S_drewN|apply Kd.S_drew)); exact Kd.S_mono HO323.out (fun _ hk => trivial)⟩, ⟨hB⟩⟩
   ·rw [if_neg c2] at H
    have c2b0 : decide (x8_1 < (l0.length : Int)) = false := decide_eq_false c2
    clear c2
    obtain rfl := Option.some.inj H
    go_wp2
    go_ret
    exact ⟨_, rE, by (with_reducible repeat (first|apply rA|apply rN|apply rD|apply Kd.S_alloc|apply Kd.S_drewN|apply Kd.S_drew)); exact HO_3.out, hB⟩
def impl_cloneNode.f (k : Nat) (a0_0 : Int) (a0_1 : ByteArray) (a0_2 : ByteArray) (a0_3 : ByteArray) (l0_4 : List (S69)) (l0_5 : List (S71)) (l0_6 : List (S34)) (a0_7 : ByteArray) : Option (Int × ByteArray × ByteArray × ByteArray × (List (S69)) × (List (S71)) × (List (S34)) × ByteArray) := impl_cloneNode.F (impl_cloneNodes.f k) k a0_0 a0_1 a0_2 a0_3 l0_4 l0_5 l0_6 a0_7
theorem impl_cloneNode.callsD (k : Nat) (a0_0 : Int) (a0_1 : ByteArray) (a0_2 : ByteArray) (a0_3 : ByteArray) (A0_4 : Option Addr) (c0_4 : Nat) (l0_4 : List (S69)) (A0_5 : Option Addr) (c0_5 : Nat) (l0_5 : List (S71)) (A0_6 : Option Addr) (c0_6 : Nat) (l0_6 : List (S34)) (a0_7 : ByteArray) (r1 : Int) (r2 : ByteArray) (r3 : ByteArray) (r4 : ByteArray) (r5 : List (S69)) (r6 : List (S71)) (r7 : List (S34)) (r8 : ByteArray) (w : World) (hr0_4 : Kd.C k69 w A0_4 l0_4.length l0_4) (hc0_4 : l0_4.length ≤ c0_4) (hr0_5 : Kd.C k71 w A0_5 l0_5.length l0_5) (hc0_5 : l0_5.length ≤ c0_5) (hr0_6 : Kd.C k34 w A0_6 l0_6.length l0_6) (hc0_6 : l0_6.length ≤ c0_6) (h : impl_cloneNode.f k a0_0 a0_1 a0_2 a0_3 l0_4 l0_5 l0_6 a0_7 = some (r1, r2, r3, r4, r5, r6, r7, r8)) :
  Calls Try.prog 28 #[.agg #[.int .i64 a0_0, .string a0_1, .string a0_2, .string a0_3, .slice A0_4 l0_4.length c0_4, .slice A0_5 l0_5.length c0_5, .slice A0_6 l0_6.length c0_6, .string a0_7]] w fun e w' => ∃ v4_ v5_ v6_ : Value, e = .returned (.agg #[.int .i64 r1, .string r2, .string r3, .string r4, v4_, v5_, v6_, .string r8]) ∧ Kd.R k69 69 w' w.heap.size (fun _ => True) v4_ r5 ∧ Kd.R k71 71 w' w.heap.size (fun _ => True) v5_ r6 ∧ Kd.S kD 34 w' w.heap.size (fun k_ => some k_ ≠ (v4_ : Value).ownBlock ∧ some k_ ≠ (v5_ : Value).ownBlock) v6_ r7 ∧ Below w.heap.size w w' := impl_cloneNode.callsF (impl_cloneNodes.f k) (impl_cloneNodes.callsD k) k a0_0 a0_1 a0_2 a0_3 A0_4 c0_4 l0_4 A0_5 c0_5 l0_5 A0_6 c0_6 l0_6 a0_7 r1 r2 r3 r4 r5 r6 r7 r8 w hr0_4 hc0_4 hr0_5 hc0_5 hr0_6 hc0_6 h
theorem impl_cloneNodes.calls (k : Nat) : ∀ (A0 : Option Addr) (c0 : Nat) (l0 : List (S34)) (r : List (S34)) (w : World) (hr0 : Kd.C k34 w A0 l0.length l0) (hc0 : l0.length ≤ c0) (h : impl_cloneNodes.f k l0 = some r),
  Calls Try.prog 48 #[.slice A0 l0.length c0] w fun e w' => ∃ v0_ : Value, e = .returned (v0_) ∧ Kd.R k34 34 w' w.heap.size (fun _ => True) v0_ r ∧ Below w.heap.size w w' := by
  intro A0 c0 l0 r w hr0 hc0 h
  refine (impl_cloneNodes.callsD k A0 c0 l0 r w hr0 hc0 h).mono ?_
  rintro e w' ⟨v, rfl, h1, h2⟩
  exact ⟨v, rfl, kD_toR h1, h2⟩
theorem impl_cloneNode.calls (k : Nat) (a0_0 : Int) (a0_1 : ByteArray) (a0_2 : ByteArray) (a0_3 : ByteArray) (A0_4 : Option Addr) (c0_4 : Nat) (l0_4 : List (S69)) (A0_5 : Option Addr) (c0_5 : Nat) (l0_5 : List (S71)) (A0_6 : Option Addr) (c0_6 : Nat) (l0_6 : List (S34)) (a0_7 : ByteArray) (r1 : Int) (r2 : ByteArray) (r3 : ByteArray) (r4 : ByteArray) (r5 : List (S69)) (r6 : List (S71)) (r7 : List (S34)) (r8 : ByteArray) (w : World) (hr0_4 : Kd.C k69 w A0_4 l0_4.length l0_4) (hc0_4 : l0_4.length ≤ c0_4) (hr0_5 : Kd.C k71 w A0_5 l0_5.length l0_5) (hc0_5 : l0_5.length ≤ c0_5) (hr0_6 : Kd.C k34 w A0_6 l0_6.length l0_6) (hc0_6 : l0_6.length ≤ c0_6) (h : impl_cloneNode.f k a0_0 a0_1 a0_2 a0_3 l0_4 l0_5 l0_6 a0_7 = some (r1, r2, r3, r4, r5, r6, r7, r8)) :
  Calls Try.prog 28 #[.agg #[.int .i64 a0_0, .string a0_1, .string a0_2, .string a0_3, .slice A0_4 l0_4.length c0_4, .slice A0_5 l0_5.length c0_5, .slice A0_6 l0_6.length c0_6, .string a0_7]] w fun e w' => ∃ v4_ v5_ v6_ : Value, e = .returned (.agg #[.int .i64 r1, .string r2, .string r3, .string r4, v4_, v5_, v6_, .string r8]) ∧ Kd.R k69 69 w' w.heap.size (fun _ => True) v4_ r5 ∧ Kd.R k71 71 w' w.heap.size (fun _ => True) v5_ r6 ∧ Kd.R k34 34 w' w.heap.size (fun k_ => some k_ ≠ (v4_ : Value).ownBlock ∧ some k_ ≠ (v5_ : Value).ownBlock) v6_ r7 ∧ Below w.heap.size w w' := by
  refine (impl_cloneNode.callsD k a0_0 a0_1 a0_2 a0_3 A0_4 c0_4 l0_4 A0_5 c0_5 l0_5 A0_6 c0_6 l0_6 a0_7 r1 r2 r3 r4 r5 r6 r7 r8 w hr0_4 hc0_4 hr0_5 hc0_5 hr0_6 hc0_6 h).mono ?_
  rintro e w' ⟨v4, v5, v6, rfl, h1, h2, h3, h4⟩
  exact ⟨v4, v5, v6, rfl, h1, h2, kD_toR h3, h4⟩

/-! ### impl_NodeAt: function 26 -/
def impl_NodeAt.l0 : Nat → List Int → Int → Int → Int → ByteArray → ByteArray → ByteArray → List (S69) → List (S71) → List (S34) → ByteArray → Option (Int × ByteArray × ByteArray × ByteArray × (List (S69)) × (List (S71)) × (List (S34)) × ByteArray × Bool)
 | 0, _, _, _, _, _, _, _, _, _, _, _ => none
 | k + 1, x8, x9, x10, x325000, x325001, x325002, x325003, x325004, x325005, x325006, x325007 => if x10 < x9 then (if 0 ≤ x10 then (if x10 < (x8.length : Int) then ((impl_in.f (rd x8 x10) 0 (wrap64 ((x325006.length : Int) - 1))).bind fun t327 => (if t327 = true then (if 0 ≤ (rd x8 x10) then (if (rd x8 x10) < (x325006.length : Int) then (impl_NodeAt.l0 k x8 x9 (wrap64 (x10 + 1)) ((rd_T34 x325006 (rd x8 x10)).f0) ((rd_T34 x325006 (rd x8 x10)).f1) ((rd_T34 x325006 (rd x8 x10)).f2) ((rd_T34 x325006 (rd x8 x10)).f3) ((rd_T34 x325006 (rd x8 x10)).f4) ((rd_T34 x325006 (rd x8 x10)).f5) ((rd_T34 x325006 (rd x8 x10)).f6) ((rd_T34 x325006 (rd x8 x10)).f7)) else (none)) else (none)) else (some (0, (⟨#[]⟩ : ByteArray), (⟨#[]⟩ : ByteArray), (⟨#[]⟩ : ByteArray), ([] : List (S69)), ([] : List (S71)), ([] : List (S34)), (⟨#[]⟩ : ByteArray), false)))) else (none)) else (none)) else ((impl_cloneNode.f k x325000 x325001 x325002 x325003 x325004 x325005 x325006 x325007).bind fun bt329 => (some (bt329.1, bt329.2.1, bt329.2.2.1, bt329.2.2.2.1, bt329.2.2.2.2.1, bt329.2.2.2.2.2.1, bt329.2.2.2.2.2.2.1, bt329.2.2.2.2.2.2.2, true)))
def impl_NodeAt.f (k : Nat) (a0_0 : Int) (a0_1 : ByteArray) (a0_2 : ByteArray) (a0_3 : ByteArray) (l0_4 : List (S69)) (l0_5 : List (S71)) (l0_6 : List (S34)) (a0_7 : ByteArray) (l1 : List Int) : Option (Int × ByteArray × ByteArray × ByteArray × (List (S69)) × (List (S71)) × (List (S34)) × ByteArray × Bool) := impl_NodeAt.l0 k l1 (l1.length : Int) 0 a0_0 a0_1 a0_2 a0_3 l0_4 l0_5 l0_6 a0_7
theorem impl_NodeAt.callsD (k : Nat) (a0_0 : Int) (a0_1 : ByteArray) (a0_2 : ByteArray) (a0_3 : ByteArray) (P0_4_ : Nat → Prop) (A0_4 : Option Addr) (c0_4 : Nat) (l0_4 : List (S69)) (P0_5_ : Nat → Prop) (A0_5 : Option Addr) (c0_5 : Nat) (l0_5 : List (S71)) (P0_6_ : Nat → Prop) (A0_6 : Option Addr) (c0_6 : Nat) (l0_6 : List (S34)) (a0_7 : ByteArray) (A1 : Option Addr) (c1 : Nat) (l1 : List Int) (r1 : Int) (r2 : ByteArray) (r3 : ByteArray) (r4 : ByteArray) (r5 : List (S69)) (r6 : List (S71)) (r7 : List (S34)) (r8 : ByteArray) (r9 : Bool) (w : World) (hs0_4 : Kd.V k69 69 w w.heap.size (fun k_ => P0_4_ k_) (.slice A0_4 l0_4.length c0_4) l0_4) (hs0_5 : Kd.V k71 71 w w.heap.size (fun k_ => P0_5_ k_) (.slice A0_5 l0_5.length c0_5) l0_5) (hs0_6 : Kd.V k34 34 w w.heap.size (fun k_ => P0_6_ k_) (.slice A0_6 l0_6.length c0_6) l0_6) (hr1 : Kd.C (Kd.int .i64) w A1 l1.length l1) (hc1 : l1.length ≤ c1) (h : impl_NodeAt.f k a0_0 a0_1 a0_2 a0_3 l0_4 l0_5 l0_6 a0_7 l1 = some (r1, r2, r3, r4, r5, r6, r7, r8, r9)) :
  Calls Try.prog 26 #[.agg #[.int .i64 a0_0, .string a0_1, .string a0_2, .string a0_3, .slice A0_4 l0_4.length c0_4, .slice A0_5 l0_5.length c0_5, .slice A0_6 l0_6.length c0_6, .string a0_7], .slice A1 l1.length c1] w fun e w' => ∃ v4_ v5_ v6_ : Value, e = .returned (.tuple #[.agg #[.int .i64 r1, .string r2, .string r3, .string r4, v4_, v5_, v6_, .string r8], .bool r9]) ∧ Kd.R k69 69 w' w.heap.size (fun k_ => (w.heap.size ≤ k_)) v4_ r5 ∧ Kd.R k71 71 w' w.heap.size (fun k_ => (w.heap.size ≤ k_)) v5_ r6 ∧ Kd.S kD 34 w' w.heap.size (fun k_ => (w.heap.size ≤ k_) ∧ some k_ ≠ (v4_ : Value).ownBlock ∧ some k_ ≠ (v5_ : Value).ownBlock) v6_ r7 ∧ Below w.heap.size w w' := by
 have hu34 := Try.underlying34
 have HO0_4 := Aside0.mk (show Kd.V k69 69 w w.heap.size (fun k_ => ((P0_4_ k_ ∨ P0_5_ k_ ∨ P0_6_ k_) ∨ w.heap.size ≤ k_)) (.slice A0_4 l0_4.length c0_4) l0_4 from Kd.V_mono hs0_4 (fun k_ hk => .inl (.inl hk)))
 have HO0_5 := Aside0.mk (show Kd.V k71 71 w w.heap.size (fun k_ => ((P0_4_ k_ ∨ P0_5_ k_ ∨ P0_6_ k_) ∨ w.heap.size ≤ k_)) (.slice A0_5 l0_5.length c0_5) l0_5 from Kd.V_mono hs0_5 (fun k_ hk => .inl (.inr (.inl hk))))
 have HO0_6 := Aside0.mk (show Kd.V k34 34 w w.heap.size (fun k_ => ((P0_4_ k_ ∨ P0_5_ k_ ∨ P0_6_ k_) ∨ w.heap.size ≤ k_)) (.slice A0_6 l0_6.length c0_6) l0_6 from Kd.V_mono hs0_6 (fun k_ hk => .inl (.inr (.inr hk))))
 have HR1 := Aside0.mk hr1
 have HC1 := Aside0.mk hc1
 clear hr1 hc1
 have HB := Aside0.mk (Below.refl w.heap.size w)
 have H : (impl_NodeAt.l0 k l1 (l1.length : Int) 0 a0_0 a0_1 a0_2 a0_3 l0_4 l0_5 l0_6 a0_7) = some (r1, r2, r3, r4, r5, r6, r7, r8, r9) := h
 clear h
 have H' := Aside0.mk H
 clear H
 go_enter Try.func26, Try.ntmps26
 go_wp2_with (first | ((with_reducible refine gate_dst (N := 2) rfl ?_); refine box_event ?hg (N := 2) ?hd (cs := #[.int .i64 a0_0, .string a0_1, .string a0_2, .string a0_3, .slice A0_4 l0_4.length c0_4, .slice A0_5 l0_5.length c0_5, .slice A0_6 l0_6.length c0_6, .string a0_7]) (t := 34) ?hr ?_; (case hd => rfl); (case hg => rfl); (case hr => first | (go_simp; done) | (go_simp; rfl)); intro gb324 hg w3 hbox hb; replace HO0_4 := Aside0.mk (Kd.V_below (Kd.V_elderB (by (with_reducible repeat (first | apply Kd.V_alloc | apply Kd.V_drewN | apply Kd.V_drew)); exact HO0_4.out) gb324 (Nat.le_of_eq hg.symm)) hb); replace HO0_5 := Aside0.mk (Kd.V_below (Kd.V_elderB (by (with_reducible repeat (first | apply Kd.V_alloc | apply Kd.V_drewN | apply Kd.V_drew)); exact HO0_5.out) gb324 (Nat.le_of_eq hg.symm)) hb); replace HO0_6 := Aside0.mk (Kd.V_below (Kd.V_elderB (by (with_reducible repeat (first | apply Kd.V_alloc | apply Kd.V_drewN | apply Kd.V_drew)); exact HO0_6.out) gb324 (Nat.le_of_eq hg.symm)) hb); have BK324 := Aside0.mk (hbox); have GW324 := Aside0.mk ((by rw [hg]; exact (below_size hB) : w.heap.size ≤ gb324)); have GE324 := Aside0.mk ((by rw [hg]; exact (below_size hB) : w.heap.size ≤ gb324)); replace HB := Aside0.mk (below_step hB hb); clear hb hbox hg) | ((with_reducible refine gate_dst (N := 4) rfl ?_); refine box_event ?hg (N := 4) ?hd (cs := #[.int .i64 0, .string (⟨#[]⟩ : ByteArray), .string (⟨#[]⟩ : ByteArray), .string (⟨#[]⟩ : ByteArray), .slice none 0 0, .slice none 0 0, .slice none 0 0, .string (⟨#[]⟩ : ByteArray)]) (t := 34) ?hr ?_; (case hd => rfl); (case hg => rfl); (case hr => first | (go_simp; done) | (go_simp; rfl)); intro gb325 hg w4 hbox hb; replace HO0_4 := Aside0.mk (Kd.V_below (Kd.V_elderB (by (with_reducible repeat (first | apply Kd.V_alloc | apply Kd.V_drewN | apply Kd.V_drew)); exact HO0_4.out) gb325 (Nat.le_of_eq hg.symm)) hb); replace HO0_5 := Aside0.mk (Kd.V_below (Kd.V_elderB (by (with_reducible repeat (first | apply Kd.V_alloc | apply Kd.V_drewN | apply Kd.V_drew)); exact HO0_5.out) gb325 (Nat.le_of_eq hg.symm)) hb); replace HO0_6 := Aside0.mk (Kd.V_below (Kd.V_elderB (by (with_reducible repeat (first | apply Kd.V_alloc | apply Kd.V_drewN | apply Kd.V_drew)); exact HO0_6.out) gb325 (Nat.le_of_eq hg.symm)) hb); have BK325 := Aside0.mk (hbox); have GW325 := Aside0.mk ((by rw [hg]; exact (below_size hB) : w.heap.size ≤ gb325)); have GE325 := Aside0.mk ((by rw [hg]; exact (below_size hB) : w.heap.size ≤ gb325)); replace HB := Aside0.mk (below_step hB hb); have NB324_325 := Aside0.mk ((by rw [hg]; exact Nat.ne_of_lt (blk_lt (g := gb324) (by (with_reducible repeat (first | refine bN ?_ _|refine bD ?_|refine bA ?_ _)); exact BK324.out)) : gb324 ≠ gb325)); have NB325_324 := Aside0.mk ((by rw [hg]; exact Nat.ne_of_gt (blk_lt (g := gb324) (by (with_reducible repeat (first | refine bN ?_ _|refine bD ?_|refine bA ?_ _)); exact BK324.out)) : gb325 ≠ gb324)); replace BK324 := Aside0.mk (blk_below (g := gb324) (by (with_reducible repeat (first | refine bN ?_ _|refine bD ?_|refine bA ?_ _)); exact BK324.out) hb); clear hb hbox hg))
 go_loopg [10] k (fun kq v10 w' => ∃ (x10_1 : Int) (x325000_1 : Int) (x325001_1 : ByteArray) (x325002_1 : ByteArray) (x325003_1 : ByteArray) (x325004_1 : List (S69)) (x325005_1 : List (S71)) (x325006_1 : List (S34)) (x325007_1 : ByteArray) (x326000_1 : Int) (x326001_1 : ByteArray) (x326002_1 : ByteArray) (x326003_1 : ByteArray) (x326007_1 : ByteArray) (u325004 : Value) (u325005 : Value) (u325006 : Value), v10 = .int .i64 x10_1 ∧ Aside0 (impl_NodeAt.l0 kq l1 (l1.length : Int) x10_1 x325000_1 x325001_1 x325002_1 x325003_1 x325004_1 x325005_1 x325006_1 x325007_1 = some (r1, r2, r3, r4, r5, r6, r7, r8, r9)) ∧ Aside0 (kq ≤ k) ∧ Aside0 (Kd.V k69 69 w' w.heap.size (fun k_ => ((P0_4_ k_ ∨ P0_5_ k_ ∨ P0_6_ k_) ∨ w.heap.size ≤ k_) ∧ k_ ≠ gb324 ∧ k_ ≠ gb325) u325004 x325004_1) ∧ Aside0 (Kd.V k71 71 w' w.heap.size (fun k_ => ((P0_4_ k_ ∨ P0_5_ k_ ∨ P0_6_ k_) ∨ w.heap.size ≤ k_) ∧ k_ ≠ gb324 ∧ k_ ≠ gb325) u325005 x325005_1) ∧ Aside0 (Kd.V k34 34 w' w.heap.size (fun k_ => ((P0_4_ k_ ∨ P0_5_ k_ ∨ P0_6_ k_) ∨ w.heap.size ≤ k_) ∧ k_ ≠ gb324 ∧ k_ ≠ gb325) u325006 x325006_1) ∧ Aside0 (w'.heap[gb324]? = some (.cells #[.int .i64 x325000_1, .string x325001_1, .string x325002_1, .string x325003_1, u325004, u325005, u325006, .string x325007_1] 34 (0, 0))) ∧ Aside0 (w'.heap[gb325]? = some (.cells #[.int .i64 x326000_1, .string x326001_1, .string x326002_1, .string x326003_1, (.slice none 0 0), (.slice none 0 0), (.slice none 0 0), .string x326007_1] 34 (0, 0))) ∧ Aside0 (Below w.heap.size w w'))
 case atStart => exact ⟨(0), (a0_0), (a0_1), (a0_2), (a0_3), (l0_4), (l0_5), (l0_6), (a0_7), (0), ((⟨#[]⟩ : ByteArray)), ((⟨#[]⟩ : ByteArray)), ((⟨#[]⟩ : ByteArray)), ((⟨#[]⟩ : ByteArray)), (.slice A0_4 l0_4.length c0_4), (.slice A0_5 l0_5.length c0_5), (.slice A0_6 l0_6.length c0_6), rG, H', ⟨Nat.le_refl _⟩, ⟨by (with_reducible repeat (first | apply Kd.V_alloc | apply Kd.V_drewN | apply Kd.V_drew)); exact Kd.V_mono HO0_4.out (fun _ hk => ⟨hk.1.1, ⟨hk.1.2, hk.2⟩⟩)⟩, ⟨by (with_reducible repeat (first | apply Kd.V_alloc | apply Kd.V_drewN | apply Kd.V_drew)); exact Kd.V_mono HO0_5.out (fun _ hk => ⟨hk.1.1, ⟨hk.1.2, hk.2⟩⟩)⟩, ⟨by (with_reducible repeat (first | apply Kd.V_alloc | apply Kd.V_drewN | apply Kd.V_drew)); exact Kd.V_mono HO0_6.out (fun _ hk => ⟨hk.1.1, ⟨hk.1.2, hk.2⟩⟩)⟩, ⟨by (with_reducible repeat (first | refine bN ?_ _|refine bD ?_|refine bA ?_ _)); exact BK324.out⟩, ⟨by (with_reducible repeat (first | refine bN ?_ _|refine bD ?_|refine bA ?_ _)); exact BK325.out⟩, ⟨hB⟩⟩
 case round =>
  clear H'
  obtain ⟨x10_1, x325000_1, x325001_1, x325002_1, x325003_1, x325004_1, x325005_1, x325006_1, x325007_1, x326000_1, x326001_1, x326002_1, x326003_1, x326007_1, u325004, u325005, u325006, rfl, HA, HK1, HO_325004, HO_325005, HO_325006, BK324, BK325, HB⟩ := hrel
  cases gk with
  | zero => exact absurd HA.out (by simp [impl_NodeAt.l0])
  | succ k1 =>
   have H := HA.out
   clear HA
   simp only [impl_NodeAt.l0] at H
   by_cases c5 : x10_1 < (l1.length : Int)
   ·rw [if_pos c5] at H
    have c5b0 : decide (x10_1 < (l1.length : Int)) = true := decide_eq_true c5
    clear c5
    obtain ⟨c6, H⟩ := if_som H
    have c6b0 : decide (0 ≤ x10_1) = true := decide_eq_true c6
    clear c6
    obtain ⟨c7, H⟩ := if_som H
    have c7b0 : decide (x10_1 < (l1.length : Int)) = true := decide_eq_true c7
    clear c7
    replace H := Option.bind_eq_some_iff.mp H
    obtain ⟨t327, A80, H⟩ := H
    try dsimp only at H
    have A8 := Aside0.mk A80
    clear A80
    have p326 : 0 ≤ (x10_1 : Int) := odt
    have q326 : x10_1 < (l1.length : Int) := odt
    obtain ⟨ad326, e326, hx326_0⟩ := Kd.at_int HR1.out x10_1 p326 q326
    cases e326
    replace hx326_0 := pw_cell_below HB.out hx326_0
    replace p326 := eq_true p326
    replace q326 := eq_true q326
    have hnb9 := NB324_325.out
    have hnc9 := NB325_324.out
    obtain ⟨hcz10_0, hcz10_1, hcz10_2, hcz10_3, hcz10_4, hcz10_5, hcz10_6, hcz10_7⟩ := bc8 BK324.out
    obtain ⟨hfz10_0, hfz10_1, hfz10_2, hfz10_3, hfz10_4, hfz10_5, hfz10_6, hfz10_7⟩ := bf8 BK324.out
    obtain ⟨Ao11, co11, eo11⟩ := Kd.V_slice HO_325006.out
    subst eo11
    go_wp2_with (first | ((with_reducible refine gate_callee (f := 27) rfl ?_); refine goesL_ (some 19) rfl rfl Try.func27 (by kernel_rfl) rfl #[.int .i64 (rd l1 x10_1), .int .i64 0, .int .i64 (wrap64 ((x325006_1.length : Int) - 1))] rfl mA ?_; (with_reducible refine (impl_in.calls (rd l1 x10_1) 0 (wrap64 ((x325006_1.length : Int) - 1)) t327 _ A8.out).mono ?_); rintro e w' ⟨rfl, ⟨nd, rfl⟩⟩; refine ⟨_, rfl, ?_⟩; refine halt_ ?_; intro q_ hq_))
    obtain ⟨rfl⟩ := hq_
    by_cases c12 : t327 = true
    ·subst c12
     rw [if_pos rfl] at H
     obtain ⟨c13, H⟩ := if_som H
     have c13b0 : decide (0 ≤ (rd l1 x10_1)) = true := decide_eq_true c13
     clear c13
     obtain ⟨c14, H⟩ := if_som H
     have c14b0 : decide ((rd l1 x10_1) < (x325006_1.length : Int)) = true := decide_eq_true c14
     clear c14
     have H' := Aside0.mk H
     clear H
     have hnb15 := NB324_325.out
     have hnc15 := NB325_324.out
     obtain ⟨hcz16_0, hcz16_1, hcz16_2, hcz16_3, hcz16_4, hcz16_5, hcz16_6, hcz16_7⟩ := bc8 BK324.out
     obtain ⟨hfz16_0, hfz16_1, hfz16_2, hfz16_3, hfz16_4, hfz16_5, hfz16_6, hfz16_7⟩ := bf8 BK324.out
     have p328 : 0 ≤ ((rd l1 x10_1) : Int) := odt
     have q328 : (rd l1 x10_1) < (x325006_1.length : Int) := odt
     obtain ⟨ad328, A328_4, c328_4, A328_5, c328_5, A328_6, c328_6, e328, hx328_0, hx328_1, hx328_2, hx328_3, hx328_4, hx328_5, hx328_6, hx328_7, hl328_4, hi328_4, hl328_5, hi328_5, hl328_6, hi328_6⟩ := at_T34 (Kd.V_reads' HO_325006.out).2.2 (rd l1 x10_1) p328 q328
     cases e328
     obtain ⟨ce328, hce328, hMe328, hcc328⟩ := Kd.V_get HO_325006.out z34 (rd l1 x10_1) p328 (by first | exact q328 | exact odt | (have e_ := (Kd.V_reads' HO_325006.out).1; omega))
     obtain ⟨ua328_4, uc328_4, ua328_5, uc328_5, ua328_6, uc328_6, rfl, ul328_4, ge328_4, ul328_5, ge328_5, ul328_6, ge328_6⟩ := k34_openF hMe328
     have hv328_4 := hcc328 4 _ rfl
     rw [add_field _ _ 4 (by omega)] at hv328_4
     replace hv328_4 := Option.some.inj (hv328_4.symm.trans hx328_4)
     injection hv328_4 with hva_ hvn_ hvc_
     rw [hva_] at ge328_4
     rw [hvc_] at ul328_4
     have HL328_4 := Aside0.mk (show Kd.V k69 69 _ w.heap.size _ _ ((rd_T34 x325006_1 (rd l1 x10_1)).f4) from Kd.V_mk ul328_4 ge328_4)
     clear hva_ hvn_ hvc_ ge328_4 ul328_4
     have hv328_5 := hcc328 5 _ rfl
     rw [add_field _ _ 5 (by omega)] at hv328_5
     replace hv328_5 := Option.some.inj (hv328_5.symm.trans hx328_5)
     injection hv328_5 with hva_ hvn_ hvc_
     rw [hva_] at ge328_5
     rw [hvc_] at ul328_5
     have HL328_5 := Aside0.mk (show Kd.V k71 71 _ w.heap.size _ _ ((rd_T34 x325006_1 (rd l1 x10_1)).f5) from Kd.V_mk ul328_5 ge328_5)
     clear hva_ hvn_ hvc_ ge328_5 ul328_5
     have hv328_6 := hcc328 6 _ rfl
     rw [add_field _ _ 6 (by omega)] at hv328_6
     replace hv328_6 := Option.some.inj (hv328_6.symm.trans hx328_6)
     injection hv328_6 with hva_ hvn_ hvc_
     rw [hva_] at ge328_6
     rw [hvc_] at ul328_6
     have HL328_6 := Aside0.mk (show Kd.V k34 34 _ w.heap.size _ _ ((rd_T34 x325006_1 (rd l1 x10_1)).f6) from Kd.V_mk ul328_6 ge328_6)
     clear hva_ hvn_ hvc_ ge328_6 ul328_6
     clear hcc328 hce328
     have HR328_4 := Aside0.mk hi328_4
     have HC328_4 := Aside0.mk hl328_4
     clear hi328_4 hl328_4
     have HR328_5 := Aside0.mk hi328_5
     have HC328_5 := Aside0.mk hl328_5
     clear hi328_5 hl328_5
     have HR328_6 := Aside0.mk hi328_6
     have HC328_6 := Aside0.mk hl328_6
     clear hi328_6 hl328_6
     replace p328 := eq_true p328
     replace q328 := eq_true q328
     go_wp2
     go_roundg k1
     case measure => have := HK1.out; omega
     case rel => exact ⟨(wrap64 (x10_1 + 1)), ((rd_T34 x325006_1 (rd l1 x10_1)).f0), ((rd_T34 x325006_1 (rd l1 x10_1)).f1), ((rd_T34 x325006_1 (rd l1 x10_1)).f2), ((rd_T34 x325006_1 (rd l1 x10_1)).f3), ((rd_T34 x325006_1 (rd l1 x10_1)).f4), ((rd_T34 x325006_1 (rd l1 x10_1)).f5), ((rd_T34 x325006_1 (rd l1 x10_1)).f6), ((rd_T34 x325006_1 (rd l1 x10_1)).f7), (x326000_1), (x326001_1), (x326002_1), (x326003_1), (x326007_1), (.slice A328_4 ((rd_T34 x325006_1 (rd l1 x10_1)).f4).length c328_4), (.slice A328_5 ((rd_T34 x325006_1 (rd l1 x10_1)).f5).length c328_5), (.slice A328_6 ((rd_T34 x325006_1 (rd l1 x10_1)).f6).length c328_6), rG, H', ⟨by have := HK1.out; omega⟩, ⟨by (with_reducible repeat (first | apply Kd.V_alloc | apply Kd.V_drewN | apply Kd.V_drew)); exact Kd.V_mono (Kd.V_far (p := ⟨gb324, 7, none⟩) (Kd.V_far (p := ⟨gb324, 6, none⟩) (Kd.V_far (p := ⟨gb324, 5, none⟩) (Kd.V_far (p := ⟨gb324, 4, none⟩) (Kd.V_far (p := ⟨gb324, 3, none⟩) (Kd.V_far (p := ⟨gb324, 2, none⟩) (Kd.V_far (p := ⟨gb324, 1, none⟩) (Kd.V_far (p := ⟨gb324, 0, none⟩) (Kd.V_mono HL328_4.out (fun k_ hk => (⟨hk, hk.2.1⟩ : _ ∧ k_ ≠ gb324))) (fun _ hk => hk.2) (.int .i64 ((rd_T34 x325006_1 (rd l1 x10_1)).f0))) (fun _ hk => hk.2) (.string ((rd_T34 x325006_1 (rd l1 x10_1)).f1))) (fun _ hk => hk.2) (.string ((rd_T34 x325006_1 (rd l1 x10_1)).f2))) (fun _ hk => hk.2) (.string ((rd_T34 x325006_1 (rd l1 x10_1)).f3))) (fun _ hk => hk.2) (.slice A328_4 ((rd_T34 x325006_1 (rd l1 x10_1)).f4).length c328_4)) (fun _ hk => hk.2) (.slice A328_5 ((rd_T34 x325006_1 (rd l1 x10_1)).f5).length c328_5)) (fun _ hk => hk.2) (.slice A328_6 ((rd_T34 x325006_1 (rd l1 x10_1)).f6).length c328_6)) (fun _ hk => hk.2) (.string ((rd_T34 x325006_1 (rd l1 x10_1)).f7))) (fun _ hk => ⟨hk.1.1, ⟨hk.1.2.1, hk.1.2.2⟩⟩)⟩, ⟨by (with_reducible repeat (first | apply Kd.V_alloc | apply Kd.V_drewN | apply Kd.V_drew)); exact Kd.V_mono (Kd.V_far (p := ⟨gb324, 7, none⟩) (Kd.V_far (p := ⟨gb324, 6, none⟩) (Kd.V_far (p := ⟨gb324, 5, none⟩) (Kd.V_far (p := ⟨gb324, 4, none⟩) (Kd.V_far (p := ⟨gb324, 3, none⟩) (Kd.V_far (p := ⟨gb324, 2, none⟩) (Kd.V_far (p := ⟨gb324, 1, none⟩) (Kd.V_far (p := ⟨gb324, 0, none⟩) (Kd.V_mono HL328_5.out (fun k_ hk => (⟨hk, hk.2.1⟩ : _ ∧ k_ ≠ gb324))) (fun _ hk => hk.2) (.int .i64 ((rd_T34 x325006_1 (rd l1 x10_1)).f0))) (fun _ hk => hk.2) (.string ((rd_T34 x325006_1 (rd l1 x10_1)).f1))) (fun _ hk => hk.2) (.string ((rd_T34 x325006_1 (rd l1 x10_1)).f2))) (fun _ hk => hk.2) (.string ((rd_T34 x325006_1 (rd l1 x10_1)).f3))) (fun _ hk => hk.2) (.slice A328_4 ((rd_T34 x325006_1 (rd l1 x10_1)).f4).length c328_4)) (fun _ hk => hk.2) (.slice A328_5 ((rd_T34 x325006_1 (rd l1 x10_1)).f5).length c328_5)) (fun _ hk => hk.2) (.slice A328_6 ((rd_T34 x325006_1 (rd l1 x10_1)).f6).length c328_6)) (fun _ hk => hk.2) (.string ((rd_T34 x325006_1 (rd l1 x10_1)).f7))) (fun _ hk => ⟨hk.1.1, ⟨hk.1.2.1, hk.1.2.2⟩⟩)⟩, ⟨by (with_reducible repeat (first | apply Kd.V_alloc | apply Kd.V_drewN | apply Kd.V_drew)); exact Kd.V_mono (Kd.V_far (p := ⟨gb324, 7, none⟩) (Kd.V_far (p := ⟨gb324, 6, none⟩) (Kd.V_far (p := ⟨gb324, 5, none⟩) (Kd.V_far (p := ⟨gb324, 4, none⟩) (Kd.V_far (p := ⟨gb324, 3, none⟩) (Kd.V_far (p := ⟨gb324, 2, none⟩) (Kd.V_far (p := ⟨gb324, 1, none⟩) (Kd.V_far (p := ⟨gb324, 0, none⟩) (Kd.V_mono HL328_6.out (fun k_ hk => (⟨hk, hk.2.1⟩ : _ ∧ k_ ≠ gb324))) (fun _ hk => hk.2) (.int .i64 ((rd_T34 x325006_1 (rd l1 x10_1)).f0))) (fun _ hk => hk.2) (.string ((rd_T34 x325006_1 (rd l1 x10_1)).f1))) (fun _ hk => hk.2) (.string ((rd_T34 x325006_1 (rd l1 x10_1)).f2))) (fun _ hk => hk.2) (.string ((rd_T34 x325006_1 (rd l1 x10_1)).f3))) (fun _ hk => hk.2) (.slice A328_4 ((rd_T34 x325006_1 (rd l1 x10_1)).f4).length c328_4)) (fun _ hk => hk.2) (.slice A328_5 ((rd_T34 x325006_1 (rd l1 x10_1)).f5).length c328_5)) (fun _ hk => hk.2) (.slice A328_6 ((rd_T34 x325006_1 (rd l1 x10_1)).f6).length c328_6)) (fun _ hk => hk.2) (.string ((rd_T34 x325006_1 (rd l1 x10_1)).f7))) (fun _ hk => ⟨hk.1.1, ⟨hk.1.2.1, hk.1.2.2⟩⟩)⟩, ⟨by (with_reducible repeat (first | refine bN ?_ _|refine bD ?_|refine bA ?_ _)); exact put8 (by (with_reducible repeat (first | refine bN ?_ _|refine bD ?_|refine bA ?_ _)); exact BK324.out)⟩, ⟨by (with_reducible repeat (first | refine bN ?_ _|refine bD ?_|refine bA ?_ _)); exact pfa8 (hn := NB325_324.out) (by (with_reducible repeat (first | refine bN ?_ _|refine bD ?_|refine bA ?_ _)); exact BK325.out)⟩, ⟨hB⟩⟩
    ·replace c12 := Bool.eq_false_iff.mpr c12
     subst c12
     rw [if_neg (show ¬ (false = true) by decide)] at H
     simp only [Option.some.injEq, Prod.mk.injEq] at H
     obtain ⟨rfl, rfl, rfl, rfl, rfl, rfl, rfl, rfl, rfl⟩ := H
     have hnb17 := NB325_324.out
     have hnc17 := NB324_325.out
     obtain ⟨hcz18_0, hcz18_1, hcz18_2, hcz18_3, hcz18_4, hcz18_5, hcz18_6, hcz18_7⟩ := bc8 BK325.out
     obtain ⟨hfz18_0, hfz18_1, hfz18_2, hfz18_3, hfz18_4, hfz18_5, hfz18_6, hfz18_7⟩ := bf8 BK325.out
     go_wp2
     refine bodyPost_ret (results_ct rfl _ _ gb325 34 #[.int .i64 0, .string (⟨#[]⟩ : ByteArray), .string (⟨#[]⟩ : ByteArray), .string (⟨#[]⟩ : ByteArray), .slice none 0 0, .slice none 0 0, .slice none 0 0, .string (⟨#[]⟩ : ByteArray)] (0, 0) _ rfl (by (with_reducible repeat (first | refine bN ?_ _|refine bD ?_|refine bA ?_ _)); exact put8 (by (with_reducible repeat (first | refine bN ?_ _|refine bD ?_|refine bA ?_ _)); exact BK325.out)) Try.underlying34 rfl (by kernel_rfl)) rfl ?_
     exact ⟨_, _, _, rE, by first | exact Kd.R_nil _ _ _ _ _ | exact Kd.N_nil _ _ _ _ _ | exact Kd.V_nil _ _ _ _ _ | exact Kd.Q_nil _ _ _ _ _ | exact Kd.S_nil _ _ _ _ _, by first | exact Kd.R_nil _ _ _ _ _ | exact Kd.N_nil _ _ _ _ _ | exact Kd.V_nil _ _ _ _ _ | exact Kd.Q_nil _ _ _ _ _ | exact Kd.S_nil _ _ _ _ _, by first | exact Kd.R_nil _ _ _ _ _ | exact Kd.N_nil _ _ _ _ _ | exact Kd.V_nil _ _ _ _ _ | exact Kd.Q_nil _ _ _ _ _ | exact Kd.S_nil _ _ _ _ _, hB⟩
   ·rw [if_neg c5] at H
    have c5b0 : decide (x10_1 < (l1.length : Int)) = false := decide_eq_false c5
    clear c5
    replace H := Option.bind_eq_some_iff.mp H
    obtain ⟨⟨t329, t330, t331, t332, t333, t336, t339, t342⟩, A190, H⟩ := H
    try dsimp only at H
    have A19 := Aside0.mk A190
    clear A190
    simp only [Option.some.injEq, Prod.mk.injEq] at H
    obtain ⟨rfl, rfl, rfl, rfl, rfl, rfl, rfl, rfl, rfl⟩ := H
    have hnb20 := NB324_325.out
    have hnc20 := NB325_324.out
    obtain ⟨hcz21_0, hcz21_1, hcz21_2, hcz21_3, hcz21_4, hcz21_5, hcz21_6, hcz21_7⟩ := bc8 BK324.out
    obtain ⟨hfz21_0, hfz21_1, hfz21_2, hfz21_3, hfz21_4, hfz21_5, hfz21_6, hfz21_7⟩ := bf8 BK324.out
    obtain ⟨Ao22, co22, eo22⟩ := Kd.V_slice HO_325004.out
    subst eo22
    obtain ⟨Ao23, co23, eo23⟩ := Kd.V_slice HO_325005.out
    subst eo23
    obtain ⟨Ao24, co24, eo24⟩ := Kd.V_slice HO_325006.out
    subst eo24
    go_wp2_with (first | ((with_reducible refine gate_callee (f := 28) rfl ?_); refine goesL_ (some 29) rfl rfl Try.func28 (by kernel_rfl) rfl #[.agg #[.int .i64 x325000_1, .string x325001_1, .string x325002_1, .string x325003_1, .slice Ao22 x325004_1.length co22, .slice Ao23 x325005_1.length co23, .slice Ao24 x325006_1.length co24, .string x325007_1]] rfl mA ?_; (with_reducible refine (impl_cloneNode.callsD k1 x325000_1 x325001_1 x325002_1 x325003_1 _ _ x325004_1 _ _ x325005_1 _ _ x325006_1 x325007_1 t329 t330 t331 t332 t333 t336 t339 t342 _ ?side1 ?side2 ?side3 ?side4 ?side5 ?side6 A19.out).mono ?_); (case side1 => repeat (first | exact (Kd.V_reads' HO_325004.out).2.2 | (with_reducible refine Kd.C_alloc ?_ _) | (with_reducible refine Kd.C_drewN ?_ _) | (with_reducible refine Kd.C_drew ?_))); (case side2 => exact (Kd.V_reads' HO_325004.out).2.1); (case side3 => repeat (first | exact (Kd.V_reads' HO_325005.out).2.2 | (with_reducible refine Kd.C_alloc ?_ _) | (with_reducible refine Kd.C_drewN ?_ _) | (with_reducible refine Kd.C_drew ?_))); (case side4 => exact (Kd.V_reads' HO_325005.out).2.1); (case side5 => repeat (first | exact (Kd.V_reads' HO_325006.out).2.2 | (with_reducible refine Kd.C_alloc ?_ _) | (with_reducible refine Kd.C_drewN ?_ _) | (with_reducible refine Kd.C_drew ?_))); (case side6 => exact (Kd.V_reads' HO_325006.out).2.1); rintro e w25 ⟨v334, v337, v340, rfl, ho0, ho1, ho2, hb⟩; refine ⟨_, rfl, ?_⟩; replace HO_325004 := Aside0.mk (Kd.V_mono (Kd.V_told (Kd.V_told (Kd.V_told (Kd.V_old (by (with_reducible repeat (first | apply Kd.V_alloc | apply Kd.V_drewN | apply Kd.V_drew)); exact HO_325004.out) hb) (Kd.R_base ho0)) (Kd.R_base ho1)) (Kd.S_base ho2)) (fun _ h_ => h_.1)); replace HO_325005 := Aside0.mk (Kd.V_mono (Kd.V_told (Kd.V_told (Kd.V_told (Kd.V_old (by (with_reducible repeat (first | apply Kd.V_alloc | apply Kd.V_drewN | apply Kd.V_drew)); exact HO_325005.out) hb) (Kd.R_base ho0)) (Kd.R_base ho1)) (Kd.S_base ho2)) (fun _ h_ => h_.1)); replace HO_325006 := Aside0.mk (Kd.V_mono (Kd.V_told (Kd.V_told (Kd.V_told (Kd.V_old (by (with_reducible repeat (first | apply Kd.V_alloc | apply Kd.V_drewN | apply Kd.V_drew)); exact HO_325006.out) hb) (Kd.R_base ho0)) (Kd.R_base ho1)) (Kd.S_base ho2)) (fun _ h_ => h_.1)); have HO335 := Aside0.mk (Kd.R_lower (Kd.R_newM (M := fun k_ => (w.heap.size ≤ k_)) ho0 (below_size hB) (fun k_ h_ => h_)) (below_size hB)); have HO338 := Aside0.mk (Kd.R_lower (Kd.R_newM (M := fun k_ => (w.heap.size ≤ k_)) ho1 (below_size hB) (fun k_ h_ => h_)) (below_size hB)); have HO341 := Aside0.mk (Kd.S_lower (Kd.S_newB (Kd.S_newB (Kd.S_newM (M := fun k_ => (w.heap.size ≤ k_)) ho2 (below_size hB) (fun k_ h_ => h_)) (g := gb324) (by (with_reducible repeat (first | refine bN ?_ _|refine bD ?_|refine bA ?_ _)); exact BK324.out)) (g := gb325) (by (with_reducible repeat (first | refine bN ?_ _|refine bD ?_|refine bA ?_ _)); exact BK325.out)) (below_size hB)); replace BK324 := Aside0.mk (blk_below (g := gb324) (by (with_reducible repeat (first | refine bN ?_ _|refine bD ?_|refine bA ?_ _)); exact BK324.out) hb); replace BK325 := Aside0.mk (blk_below (g := gb325) (by (with_reducible repeat (first | refine bN ?_ _|refine bD ?_|refine bA ?_ _)); exact BK325.out) hb); replace HB := Aside0.mk (below_step hB hb); (try clear hb); (try clear hb2); (try clear hk); (try clear hi); (try clear ho0); (try clear ho1); (try clear ho2); obtain ⟨hcz26_0, hcz26_1, hcz26_2, hcz26_3, hcz26_4, hcz26_5, hcz26_6, hcz26_7⟩ := bc8 BK325.out; obtain ⟨hfz26_0, hfz26_1, hfz26_2, hfz26_3, hfz26_4, hfz26_5, hfz26_6, hfz26_7⟩ := bf8 BK325.out; obtain ⟨Ao27, co27, eo27⟩ := Kd.R_slice HO335.out; subst eo27; obtain ⟨Ao28, co28, eo28⟩ := Kd.R_slice HO338.out; subst eo28; obtain ⟨Ao29, co29, eo29⟩ := Kd.S_slice HO341.out; subst eo29))
    refine bodyPost_ret (results_ct rfl _ _ gb325 34 #[.int .i64 t329, .string t330, .string t331, .string t332, .slice Ao27 t333.length co27, .slice Ao28 t336.length co28, .slice Ao29 t339.length co29, .string t342] (0, 0) _ rfl (by (with_reducible repeat (first | refine bN ?_ _|refine bD ?_|refine bA ?_ _)); exact put8 (by (with_reducible repeat (first | refine bN ?_ _|refine bD ?_|refine bA ?_ _)); exact BK325.out)) Try.underlying34 rfl (by kernel_rfl)) rfl ?_
    exact ⟨_, _, _, rE, by (with_reducible repeat (first|apply rA|apply rN|apply rD|apply Kd.S_alloc|apply Kd.S_drewN|apply Kd.S_drew)); exact Kd.R_mono (Kd.R_far (p := ⟨gb325, 7, none⟩) (Kd.R_far (p := ⟨gb325, 6, none⟩) (Kd.R_far (p := ⟨gb325, 5, none⟩) (Kd.R_far (p := ⟨gb325, 4, none⟩) (Kd.R_far (p := ⟨gb325, 3, none⟩) (Kd.R_far (p := ⟨gb325, 2, none⟩) (Kd.R_far (p := ⟨gb325, 1, none⟩) (Kd.R_far (p := ⟨gb325, 0, none⟩) (Kd.R_types HO335.out BK325.out (by decide)) (fun _ hk => hk.2) (.int .i64 t329)) (fun _ hk => hk.2) (.string t330)) (fun _ hk => hk.2) (.string t331)) (fun _ hk => hk.2) (.string t332)) (fun _ hk => hk.2) (.slice Ao27 t333.length co27)) (fun _ hk => hk.2) (.slice Ao28 t336.length co28)) (fun _ hk => hk.2) (.slice Ao29 t339.length co29)) (fun _ hk => hk.2) (.string t342)) (fun _ hk => hk.1.1), by (with_reducible repeat (first|apply rA|apply rN|apply rD|apply Kd.S_alloc|apply Kd.S_drewN|apply Kd.S_drew)); exact Kd.R_mono (Kd.R_far (p := ⟨gb325, 7, none⟩) (Kd.R_far (p := ⟨gb325, 6, none⟩) (Kd.R_far (p := ⟨gb325, 5, none⟩) (Kd.R_far (p := ⟨gb325, 4, none⟩) (Kd.R_far (p := ⟨gb325, 3, none⟩) (Kd.R_far (p := ⟨gb325, 2, none⟩) (Kd.R_far (p := ⟨gb325, 1, none⟩) (Kd.R_far (p := ⟨gb325, 0, none⟩) (Kd.R_types HO338.out BK325.out (by decide)) (fun _ hk => hk.2) (.int .i64 t329)) (fun _ hk => hk.2) (.string t330)) (fun _ hk => hk.2) (.string t331)) (fun _ hk => hk.2) (.string t332)) (fun _ hk => hk.2) (.slice Ao27 t333.length co27)) (fun _ hk => hk.2) (.slice Ao28 t336.length co28)) (fun _ hk => hk.2) (.slice Ao29 t339.length co29)) (fun _ hk => hk.2) (.string t342)) (fun _ hk => hk.1.1), by (with_reducible repeat (first|apply rA|apply rN|apply rD|apply Kd.S_alloc|apply Kd.S_drewN|apply Kd.S_drew)); exact Kd.S_mono (Kd.S_far (p := ⟨gb325, 7, none⟩) (Kd.S_far (p := ⟨gb325, 6, none⟩) (Kd.S_far (p := ⟨gb325, 5, none⟩) (Kd.S_far (p := ⟨gb325, 4, none⟩) (Kd.S_far (p := ⟨gb325, 3, none⟩) (Kd.S_far (p := ⟨gb325, 2, none⟩) (Kd.S_far (p := ⟨gb325, 1, none⟩) (Kd.S_far (p := ⟨gb325, 0, none⟩) (Kd.S_mono HO341.out (fun k_ hk => (⟨hk, hk.2⟩ : _ ∧ k_ ≠ gb325))) (fun _ hk => hk.2) (.int .i64 t329)) (fun _ hk => hk.2) (.string t330)) (fun _ hk => hk.2) (.string t331)) (fun _ hk => hk.2) (.string t332)) (fun _ hk => hk.2) (.slice Ao27 t333.length co27)) (fun _ hk => hk.2) (.slice Ao28 t336.length co28)) (fun _ hk => hk.2) (.slice Ao29 t339.length co29)) (fun _ hk => hk.2) (.string t342)) (fun _ hk => ⟨hk.1.1.1.1, ⟨hk.1.1.1.2.1, hk.1.1.1.2.2⟩⟩), hB⟩
theorem impl_NodeAt.calls (k : Nat) (a0_0 : Int) (a0_1 : ByteArray) (a0_2 : ByteArray) (a0_3 : ByteArray) (P0_4_ : Nat → Prop) (A0_4 : Option Addr) (c0_4 : Nat) (l0_4 : List (S69)) (P0_5_ : Nat → Prop) (A0_5 : Option Addr) (c0_5 : Nat) (l0_5 : List (S71)) (P0_6_ : Nat → Prop) (A0_6 : Option Addr) (c0_6 : Nat) (l0_6 : List (S34)) (a0_7 : ByteArray) (A1 : Option Addr) (c1 : Nat) (l1 : List Int) (r1 : Int) (r2 : ByteArray) (r3 : ByteArray) (r4 : ByteArray) (r5 : List (S69)) (r6 : List (S71)) (r7 : List (S34)) (r8 : ByteArray) (r9 : Bool) (w : World) (hs0_4 : Kd.V k69 69 w w.heap.size (fun k_ => P0_4_ k_) (.slice A0_4 l0_4.length c0_4) l0_4) (hs0_5 : Kd.V k71 71 w w.heap.size (fun k_ => P0_5_ k_) (.slice A0_5 l0_5.length c0_5) l0_5) (hs0_6 : Kd.V k34 34 w w.heap.size (fun k_ => P0_6_ k_) (.slice A0_6 l0_6.length c0_6) l0_6) (hr1 : Kd.C (Kd.int .i64) w A1 l1.length l1) (hc1 : l1.length ≤ c1) (h : impl_NodeAt.f k a0_0 a0_1 a0_2 a0_3 l0_4 l0_5 l0_6 a0_7 l1 = some (r1, r2, r3, r4, r5, r6, r7, r8, r9)) :
  Calls Try.prog 26 #[.agg #[.int .i64 a0_0, .string a0_1, .string a0_2, .string a0_3, .slice A0_4 l0_4.length c0_4, .slice A0_5 l0_5.length c0_5, .slice A0_6 l0_6.length c0_6, .string a0_7], .slice A1 l1.length c1] w fun e w' => ∃ v4_ v5_ v6_ : Value, e = .returned (.tuple #[.agg #[.int .i64 r1, .string r2, .string r3, .string r4, v4_, v5_, v6_, .string r8], .bool r9]) ∧ Kd.R k69 69 w' w.heap.size (fun k_ => (w.heap.size ≤ k_)) v4_ r5 ∧ Kd.R k71 71 w' w.heap.size (fun k_ => (w.heap.size ≤ k_)) v5_ r6 ∧ Kd.R k34 34 w' w.heap.size (fun k_ => (w.heap.size ≤ k_) ∧ some k_ ≠ (v4_ : Value).ownBlock ∧ some k_ ≠ (v5_ : Value).ownBlock) v6_ r7 ∧ Below w.heap.size w w' := by
  refine (impl_NodeAt.callsD k a0_0 a0_1 a0_2 a0_3 P0_4_ A0_4 c0_4 l0_4 P0_5_ A0_5 c0_5 l0_5 P0_6_ A0_6 c0_6 l0_6 a0_7 A1 c1 l1 r1 r2 r3 r4 r5 r6 r7 r8 r9 w hs0_4 hs0_5 hs0_6 hr1 hc1 h).mono ?_
  rintro e w' ⟨v4, v5, v6, rfl, h1, h2, h3, h4⟩
  exact ⟨v4, v5, v6, rfl, h1, h2, kD_toR h3, h4⟩

end Go.Proofs.Ytglmahgliihkaaa.PY
