-- Written by the session's program hprint.py, over the kit's print program. Lean checks it.
import Derived.Test.YtalionlkjdgciaaGreatDoorPLx0
import Derived.Test.YtalionlkjdgciaaGreatDoorPLx11
namespace Go.Proofs.YtalionlkjdgciaaGreatDoor.PL
open Go.RowKit Go.Proofs.YtalionlkjdgciaaGreatDoorW.PrintWords Go.Proofs.YtalionlkjdgciaaGreatDoorW.PrintLast Go.Proofs.YtalionlkjdgciaaGreatDoorW.PrintMore
attribute [local go_sem] max2_int min2_int max_two min_two max_three min_three max_four min_four   -- for this text's walks alone
set_option linter.unusedVariables false
set_option linter.unusedSimpArgs false
set_option maxHeartbeats 8000000
set_option maxRecDepth 100000

/-! ### impl_SignAt: function 111 -/
def impl_SignAt.f (a0 : ByteArray) (a1 : Int) : Option (Int × Int × Bool) := (impl_in.f a1 0 (wrap64 ((a0.size : Int) - 1))).bind fun t289 => (if t289 = true then (if 0 ≤ a1 then (if a1 ≤ (a0.size : Int) then ((utf8_DecodeRuneInString.f (a0.extract (a1 : Int).toNat a0.size)).bind fun bt290 => (if bt290.1 = 65533 then (if bt290.2 ≤ 1 then (some (0, 0, false)) else (some (wrap64 (bt290.1), wrap64 (a1 + bt290.2), true))) else (some (wrap64 (bt290.1), wrap64 (a1 + bt290.2), true)))) else (none)) else (none)) else (some (0, 0, false)))
theorem impl_SignAt.calls (a0 : ByteArray) (a1 : Int) (r1 : Int) (r2 : Int) (r3 : Bool) (w : World) (hTab : Tabs w) (h : impl_SignAt.f a0 a1 = some (r1, r2, r3)) :
  Calls Tryz.prog 111 #[.string a0, .int .i64 a1] w fun e w' => e = .returned (.tuple #[.int .i64 r1, .int .i64 r2, .bool r3]) ∧ Below w.heap.size w w' := by
 have HT := Aside0.mk hTab
 clear hTab
 have HB := Aside0.mk (Below.refl w.heap.size w)
 have H : ((impl_in.f a1 0 (wrap64 ((a0.size : Int) - 1))).bind fun t289 => (if t289 = true then (if 0 ≤ a1 then (if a1 ≤ (a0.size : Int) then ((utf8_DecodeRuneInString.f (a0.extract (a1 : Int).toNat a0.size)).bind fun bt290 => (if bt290.1 = 65533 then (if bt290.2 ≤ 1 then (some (0, 0, false)) else (some (wrap64 (bt290.1), wrap64 (a1 + bt290.2), true))) else (some (wrap64 (bt290.1), wrap64 (a1 + bt290.2), true)))) else (none)) else (none)) else (some (0, 0, false)))) = some (r1, r2, r3) := h
 clear h
 replace H := Option.bind_eq_some_iff.mp H
 obtain ⟨t289, A30, H⟩ := H
 try dsimp only at H
 have A3 := Aside0.mk A30
 clear A30
 go_enter Tryz.func111, Tryz.ntmps111
 go_wp2_with (first | ((with_reducible refine gate_callee (f := 114) rfl ?_); refine goesL_ (some 13) rfl rfl Tryz.func114 (by kernel_rfl) rfl #[.int .i64 a1, .int .i64 0, .int .i64 (wrap64 ((a0.size : Int) - 1))] rfl mA ?_; (with_reducible refine (impl_in.calls a1 0 (wrap64 ((a0.size : Int) - 1)) t289 _ A3.out).mono ?_); rintro e w' ⟨rfl, ⟨nd, rfl⟩⟩; refine ⟨_, rfl, ?_⟩; refine halt_ ?_; intro q_ hq_))
 obtain ⟨rfl⟩ := hq_
 by_cases c4 : t289 = true
 ·subst c4
  rw [if_pos rfl] at H
  obtain ⟨c5, H⟩ := if_som H
  obtain ⟨c5b0, c5b1⟩ := fcT c5
  clear c5
  obtain ⟨c6, H⟩ := if_som H
  obtain ⟨c6b0, c6b1⟩ := fcT c6
  clear c6
  replace H := Option.bind_eq_some_iff.mp H
  obtain ⟨⟨t290, t291⟩, A70, H⟩ := H
  try dsimp only at H
  have A7 := Aside0.mk A70
  clear A70
  go_wp2_with (first | ((with_reducible refine gate_callee (f := 142) rfl ?_); refine goesL_ (some 19) rfl rfl Tryz.func142 (by kernel_rfl) rfl #[.string (a0.extract (a1 : Int).toNat a0.size)] rfl mA ?_; (with_reducible refine (utf8_DecodeRuneInString.calls (a0.extract (a1 : Int).toNat a0.size) t290 t291 _ ?tabs A7.out).mono ?_); (case tabs => first | exact Tabs.below HT.out hB | (repeat (first | exact HT.out | (with_reducible refine Tabs.drewN ?_ _) | (with_reducible refine Tabs.drew ?_) | (with_reducible refine Tabs.alloc ?_ _)))); rintro e w8 ⟨rfl, hb⟩; refine ⟨_, rfl, ?_⟩; replace HB := Aside0.mk (below_step hB hb); (try clear hb); (try clear hb2); (try clear hk); (try clear hi); refine halt_ ?_; intro q_ hq_))
  obtain ⟨rfl⟩ := hq_
  by_cases c9 : t290 = 65533
  ·rw [if_pos c9] at H
   obtain ⟨c9b0, c9b1⟩ := eqT c9
   clear c9
   by_cases c10 : t291 ≤ 1
   ·rw [if_pos c10] at H
    have c10b0 : decide (t291 ≤ 1) = true := decide_eq_true c10
    clear c10
    simp only [Option.some.injEq, Prod.mk.injEq] at H
    obtain ⟨rfl, rfl, rfl⟩ := H
    go_wp2
    go_ret3
    exact ⟨rE, hB⟩
   ·rw [if_neg c10] at H
    have c10b0 : decide (t291 ≤ 1) = false := decide_eq_false c10
    clear c10
    simp only [Option.some.injEq, Prod.mk.injEq] at H
    obtain ⟨rfl, rfl, rfl⟩ := H
    go_wp2
    go_ret3
    exact ⟨rE, hB⟩
  ·rw [if_neg c9] at H
   obtain ⟨c9b0, c9b1⟩ := eqF c9
   simp only [Option.some.injEq, Prod.mk.injEq] at H
   obtain ⟨rfl, rfl, rfl⟩ := H
   go_wp2
   go_ret3
   exact ⟨rE, hB⟩
 ·replace c4 := Bool.eq_false_iff.mpr c4
  subst c4
  rw [if_neg (show ¬ (false = true) by decide)] at H
  simp only [Option.some.injEq, Prod.mk.injEq] at H
  obtain ⟨rfl, rfl, rfl⟩ := H
  go_wp2
  go_ret3
  exact ⟨rE, hB⟩

/-! ### impl_inAny: function 143 -/
def impl_inAny.enc (p : Int × Int) : List Value := [.int .i64 p.1, .int .i64 p.2]
def impl_inAny.has (n : Int) (p : Int × Int) : Bool := decide (p.1 ≤ n) && decide (n ≤ p.2)
theorem impl_inAny.in_f (n lo hi : Int) : impl_in.f n lo hi = some (decide (lo ≤ n) && decide (n ≤ hi)) := by
  unfold impl_in.f
  by_cases h : n ≥ lo
  · rw [if_pos h]
    simp [h]
  · rw [if_neg h]
    have : ¬ lo ≤ n := h
    simp [this]
theorem impl_inAny.lit (n lo hi : Int) (B : Nat) (W : World) (hc : W.cell? ⟨B, 0, none⟩ = some (.int .i64 n)) :
    Calls Tryz.prog 162 #[.agg #[.int .i64 lo, .int .i64 hi], .pointer (some ⟨B, 0, none⟩)] W fun e w' => e = .returned (.bool (impl_inAny.has n (lo, hi))) ∧ Below W.heap.size W w' := by
  have hB : B < W.heap.size := World.block_lt_of_cell? W _ hc
  go_enter Tryz.func162, Tryz.ntmps162
  go_wp2_with (go_at_call 114; refine (impl_in.calls _ _ _ _ _ (impl_inAny.in_f _ _ _)).mono ?_; rintro e w' ⟨rfl, ⟨nd, rfl⟩⟩)
  go_ret
  exact ⟨rfl, pw_below_drewN (below_alloc (Below.refl _ _) _) _⟩
set_option maxHeartbeats 2000000 in
theorem impl_inAny.index (n : Int) (zs : List (Int × Int)) (b off c B : Nat) (w : World) (hn : zs.length ≤ 1000) (hb : b < w.heap.size) (hB : B < w.heap.size) (hc : w.cell? ⟨B, 0, none⟩ = some (.int .i64 n))
    (hz : ∀ j (p : Int × Int), zs[j]? = some p → w.cell? ⟨b, off + j * 2, none⟩ = some (.int .i64 p.1) ∧ w.cell? ⟨b, off + j * 2 + 1, none⟩ = some (.int .i64 p.2)) :
    Calls Tryz.prog 171 #[.slice (some ⟨b, off, none⟩) zs.length c, .func (.func 162) #[] #[.pointer (some ⟨B, 0, none⟩)]] w
      fun e w' => ∃ i : Int, e = .returned (.int .i64 i) ∧ decide (0 ≤ i) = zs.any (impl_inAny.has n) ∧ Below w.heap.size w w' := by
  have HZ := Aside0.mk hz
  have HC := Aside0.mk hc
  clear hz hc
  have eg : ∀ args w, (callFunc 162 args).run Tryz.prog w = .ok (.enter 162 args) w := enters_of Tryz.func162 (by kernel_rfl) rfl
  go_enter Tryz.func171, Tryz.ntmps171
  go_wp2
  go_loopg [5, 8] zs.length (fun gg _ s8 wr => ∃ kk : Nat, kk ≤ zs.length ∧ zs.length - kk ≤ gg ∧ s8 = .int .i64 kk ∧ Aside0 (Below w.heap.size w wr) ∧ Aside0 (∀ j p, j < kk → zs[j]? = some p → impl_inAny.has n p = false))
  case atStart => exact ⟨0, Nat.zero_le _, by omega, rfl, ⟨Below.refl _ w⟩, ⟨fun j p hj => absurd hj (Nat.not_lt_zero _)⟩⟩
  case round =>
    obtain ⟨kk, hkk, hg, rfl, BW, A⟩ := hrel
    by_cases hlt : kk < zs.length
    · have hltz : (kk : Int) < (zs.length : Int) := by omega
      obtain ⟨⟨lo, hi⟩, hp⟩ : ∃ p, zs[kk]? = some p := ⟨zs[kk], List.getElem?_eq_getElem hlt⟩
      have z1 : wr.cell? ⟨b, off + kk * 2, none⟩ = some (.int .i64 lo) := (BW.out.cell (p := ⟨b, off + kk * 2, none⟩) hb).trans (HZ.out kk _ hp).1
      have z2 : wr.cell? ⟨b, off + kk * 2 + 1, none⟩ = some (.int .i64 hi) := (BW.out.cell (p := ⟨b, off + kk * 2 + 1, none⟩) hb).trans (HZ.out kk _ hp).2
      have hcall := impl_inAny.lit n lo hi B wr ((BW.out.cell (p := ⟨B, 0, none⟩) hB).trans HC.out)
      have HP := Aside0.mk hp
      clear hp
      cases hq : impl_inAny.has n (lo, hi) with
      | true =>
        rw [hq] at hcall
        have HQ := Aside0.mk hq
        clear hq
        go_wp2_with (go_at_fn 162; refine hcall.mono ?_; rintro e w' ⟨rfl, hb'⟩)
        go_ret
        refine ⟨(kk : Int), rfl, ?_, BW.out.trans (hb'.mono BW.out.size)⟩
        have : zs.any (impl_inAny.has n) = true := List.any_eq_true.2 ⟨(lo, hi), List.mem_of_getElem? HP.out, HQ.out⟩
        rw [this]
        exact decide_eq_true (by omega)
      | false =>
        rw [hq] at hcall
        have HQ := Aside0.mk hq
        clear hq
        go_wp2_with (go_at_fn 162; refine hcall.mono ?_; rintro e w' ⟨rfl, hb'⟩)
        go_roundg (zs.length - (kk + 1))
        case measure => omega
        case rel =>
          refine ⟨kk + 1, by omega, by omega, by go_num, ⟨BW.out.trans (hb'.mono BW.out.size)⟩, ⟨fun j p hj hp => ?_⟩⟩
          by_cases e : j = kk
          · subst e
            rw [HP.out] at hp
            cases hp
            exact HQ.out
          · exact A.out j p (by omega) hp
    · have hltz : ¬ (kk : Int) < (zs.length : Int) := by omega
      have : kk = zs.length := by omega
      subst this
      go_wp2
      go_ret
      refine ⟨-1, rfl, ?_, BW.out⟩
      have : zs.any (impl_inAny.has n) = false := by
        rw [List.any_eq_false]
        intro p hp
        obtain ⟨j, hj⟩ := List.getElem?_of_mem hp
        rw [A.out j p (List.getElem?_eq_some_iff.1 hj).1 hj]
        simp
      rw [this]
      rfl
theorem impl_inAny.contains (n : Int) (zs : List (Int × Int)) (b off c B : Nat) (w : World) (hn : zs.length ≤ 1000) (hb : b < w.heap.size) (hB : B < w.heap.size) (hc : w.cell? ⟨B, 0, none⟩ = some (.int .i64 n))
    (hz : ∀ j (p : Int × Int), zs[j]? = some p → w.cell? ⟨b, off + j * 2, none⟩ = some (.int .i64 p.1) ∧ w.cell? ⟨b, off + j * 2 + 1, none⟩ = some (.int .i64 p.2)) :
    Calls Tryz.prog 161 #[.slice (some ⟨b, off, none⟩) zs.length c, .func (.func 162) #[] #[.pointer (some ⟨B, 0, none⟩)]] w
      fun e w' => e = .returned (.bool (zs.any (impl_inAny.has n))) ∧ Below w.heap.size w w' := by
  have h := impl_inAny.index n zs b off c B w hn hb hB hc hz
  clear hz hc
  generalize zs.any (impl_inAny.has n) = r at h ⊢
  go_enter Tryz.func161, Tryz.ntmps161
  go_wp2_with (go_at_call 171; refine h.mono ?_; rintro e w' ⟨i, rfl, hi, hb'⟩; have HI := Aside0.mk hi; clear hi)
  go_ret
  exact ⟨by rw [← HI.out]; rfl, hb'⟩
theorem impl_inAny.calls (n : Int) (zs : List (Int × Int)) (b off c : Nat) (w : World) (hn : zs.length ≤ 1000) (hb : b < w.heap.size)
    (hz : ∀ j (p : Int × Int), zs[j]? = some p → w.cell? ⟨b, off + j * 2, none⟩ = some (.int .i64 p.1) ∧ w.cell? ⟨b, off + j * 2 + 1, none⟩ = some (.int .i64 p.2)) :
    Calls Tryz.prog 143 #[.int .i64 n, .slice (some ⟨b, off, none⟩) zs.length c] w
      fun e w' => e = .returned (.bool (zs.any (impl_inAny.has n))) ∧ Below w.heap.size w w' := by
  have h := fun (W : World) (hB : w.heap.size < W.heap.size) (hc : W.cell? ⟨w.heap.size, 0, none⟩ = some (.int .i64 n)) (hW : Below w.heap.size w W) =>
    impl_inAny.contains n zs b off c w.heap.size W hn (by omega) hB hc (fun j p hj => ⟨(hW.cell (p := ⟨b, off + j * 2, none⟩) hb).trans (hz j p hj).1, (hW.cell (p := ⟨b, off + j * 2 + 1, none⟩) hb).trans (hz j p hj).2⟩)
  clear hz
  generalize zs.any (impl_inAny.has n) = r at h ⊢
  go_enter Tryz.func143, Tryz.ntmps143
  go_wp2_with (go_at_call 161; refine (h _ (by simp) (by simp) (below_alloc (Below.refl _ _) _)).mono ?_; rintro e w' ⟨rfl, hb'⟩)
  go_ret
  exact ⟨rfl, (below_alloc (Below.refl _ _) _).trans (hb'.mono (by simp))⟩
theorem impl_inAny.cells_at (zs : List (Int × Int)) : ∀ (j : Nat) (p : Int × Int), zs[j]? = some p → (zs.flatMap impl_inAny.enc)[j * 2]? = some (.int .i64 p.1) ∧ (zs.flatMap impl_inAny.enc)[j * 2 + 1]? = some (.int .i64 p.2) := by
  induction zs with
  | nil => intro j p h; simp at h
  | cons q zs ih =>
    intro j p h
    cases j with
    | zero =>
      simp at h
      subst h
      simp [impl_inAny.enc]
    | succ j =>
      have := ih j p (by simpa using h)
      rw [List.flatMap_cons, List.getElem?_append_right (by simp [impl_inAny.enc]; omega), List.getElem?_append_right (by simp [impl_inAny.enc]; omega)]
      have e1 : (j + 1) * 2 - (impl_inAny.enc q).length = j * 2 := by simp [impl_inAny.enc]; omega
      have e2 : (j + 1) * 2 + 1 - (impl_inAny.enc q).length = j * 2 + 1 := by simp [impl_inAny.enc]; omega
      rw [e1, e2]
      exact this
theorem impl_inAny.lit_calls {W : World} {B : Nat} (n : Int) (zs : List (Int × Int)) (w : World) (cs : Array Value) (T c N : Nat) (hcs : cs = (zs.flatMap impl_inAny.enc).toArray) (hN : N = zs.length) (hn : zs.length ≤ 1000) (hW : W = w.alloc (.cells cs T)) (hs : B = w.heap.size) :
    Calls Tryz.prog 143 #[.int .i64 n, .slice (some ⟨B, 0, none⟩) N c] W
      fun e w' => e = .returned (.bool (zs.any (impl_inAny.has n))) ∧ Below w.heap.size w w' := by
  subst hcs hN hW hs
  refine (impl_inAny.calls n zs w.heap.size 0 c _ hn (by simp) (fun j p hj => ?_)).mono fun e w' ⟨he, hb⟩ => ⟨he, (below_alloc (Below.refl _ _) _).trans (hb.mono (by simp))⟩
  have := impl_inAny.cells_at zs j p hj
  rw [Nat.zero_add, World.cell?_alloc_at _ _ _ _ rfl, World.cell?_alloc_at _ _ _ _ rfl]
  simpa using this

/-! ### impl_IsSign: function 156 -/
def impl_IsSign.l : List (Int × Int) := [(9, 10), (13, 13), (32, 55295), (57344, 65533), (65536, 1114111)]
def impl_IsSign.f (a0 : Int) : Option Bool := some (impl_IsSign.l.any (impl_inAny.has a0))
set_option maxHeartbeats 2000000 in
theorem impl_IsSign.calls (a0 : Int) (r : Bool) (w : World) (h : impl_IsSign.f a0 = some r) : Calls Tryz.prog 156 #[.int .i64 a0] w fun e w' => e = .returned (.bool r) ∧ Below w.heap.size w w' := by
  have h' : impl_IsSign.l.any (impl_inAny.has a0) = r := Option.some.inj h
  have HR := Aside0.mk h'
  clear h h'
  go_enter Tryz.func156, Tryz.ntmps156
  go_wp2_with (go_at_call 143; refine (impl_inAny.lit_calls a0 impl_IsSign.l w _ _ _ _ (by rfl) (by rfl) (by decide) (by rfl) (by rfl)).mono ?_; rintro e w' ⟨rfl, hb⟩)
  go_ret
  exact ⟨by rw [← HR.out]; rfl, hb⟩

/-! ### impl_signsOk: function 136 -/
def impl_signsOk.l0 : Nat → ByteArray → Int → Option (Bool)
 | 0, _, _ => none
 | k + 1, x0, x3 => if x3 < (x0.size : Int) then ((impl_SignAt.f x0 x3).bind fun bt292 => (if bt292.2.2 = true then ((impl_IsSign.f bt292.1).bind fun t295 => (if t295 = true then (impl_signsOk.l0 k x0 bt292.2.1) else (some false))) else (some false))) else (some true)
def impl_signsOk.f (k : Nat) (a0 : ByteArray) : Option (Bool) := impl_signsOk.l0 k a0 0
theorem impl_signsOk.mono_l : ∀ k, (∀ y0 y1, LeO (impl_signsOk.l0 k y0 y1) (impl_signsOk.l0 (k + 1) y0 y1))
 | 0 => fun _ _ r h => by simp [impl_signsOk.l0] at h
 | k + 1 => by
  have ih0 := impl_signsOk.mono_l k
  ·intro y0 y1
   unfold impl_signsOk.l0
   repeat' first
   | (with_reducible exact ih0 _ _)
   | (with_reducible exact LeO.refl _)
   | (with_reducible exact LeO.none _)
   | (with_reducible refine LeO.ite ?_ ?_)
   | (with_reducible refine LeO.bind ?_ (fun _ => ?_))
   | exact ih0 _ _
   | exact LeO.none _
   | refine LeO.ite ?_ ?_
   | refine LeO.bind ?_ (fun _ => ?_)
theorem impl_signsOk.mono : ∀ a0 k, LeO (impl_signsOk.f k a0) (impl_signsOk.f (k + 1) a0) := by
 intro a0 k
 have ih0 := impl_signsOk.mono_l k
 unfold impl_signsOk.f
 repeat' first
   | (with_reducible exact ih0 _ _)
   | (with_reducible exact LeO.refl _)
   | (with_reducible exact LeO.none _)
   | (with_reducible refine LeO.ite ?_ ?_)
   | (with_reducible refine LeO.bind ?_ (fun _ => ?_))
   | exact ih0 _ _
   | exact LeO.none _
   | refine LeO.ite ?_ ?_
   | refine LeO.bind ?_ (fun _ => ?_)
theorem impl_signsOk.calls (k : Nat) (a0 : ByteArray) (r : Bool) (w : World) (hTab : Tabs w) (h : impl_signsOk.f k a0 = some r) :
  Calls Tryz.prog 136 #[.string a0] w fun e w' => e = .returned (.bool r) ∧ Below w.heap.size w w' := by
 have HT := Aside0.mk hTab
 clear hTab
 have HB := Aside0.mk (Below.refl w.heap.size w)
 have H : (impl_signsOk.l0 k a0 0) = some r := h
 clear h
 have H' := Aside0.mk H
 clear H
 go_enter Tryz.func136, Tryz.ntmps136
 go_wp2
 go_loopg [3] k (fun kq v3 w' => ∃ (x3_1 : Int), v3 = .int .i64 x3_1 ∧ Aside0 (impl_signsOk.l0 kq a0 x3_1 = some r) ∧ Aside0 (kq ≤ k) ∧ Aside0 (Below w.heap.size w w'))
 case atStart => exact ⟨(0), rG, H', ⟨Nat.le_refl _⟩, ⟨hB⟩⟩
 case round =>
  clear H'
  obtain ⟨x3_1, rfl, HA, HK1, HB⟩ := hrel
  cases gk with
  | zero => exact absurd HA.out (by simp [impl_signsOk.l0])
  | succ k1 =>
   have H := HA.out
   clear HA
   simp only [impl_signsOk.l0] at H
   by_cases c2 : x3_1 < (a0.size : Int)
   ·rw [if_pos c2] at H
    have c2b0 : decide (x3_1 < (a0.size : Int)) = true := decide_eq_true c2
    clear c2
    replace H := Option.bind_eq_some_iff.mp H
    obtain ⟨⟨t292, t293, t294⟩, A30, H⟩ := H
    try dsimp only at H
    have A3 := Aside0.mk A30
    clear A30
    go_wp2_with (first | ((with_reducible refine gate_callee (f := 111) rfl ?_); refine goesL_ (some 14) rfl rfl Tryz.func111 (by kernel_rfl) rfl #[.string a0, .int .i64 x3_1] rfl mA ?_; (with_reducible refine (impl_SignAt.calls a0 x3_1 t292 t293 t294 _ ?tabs A3.out).mono ?_); (case tabs => first | exact Tabs.below HT.out hB | (repeat (first | exact HT.out | (with_reducible refine Tabs.drewN ?_ _) | (with_reducible refine Tabs.drew ?_) | (with_reducible refine Tabs.alloc ?_ _)))); rintro e w4 ⟨rfl, hb⟩; refine ⟨_, rfl, ?_⟩; replace HB := Aside0.mk (below_step hB hb); (try clear hb); (try clear hb2); (try clear hk); (try clear hi); refine halt_ ?_; intro q_ hq_))
    obtain ⟨rfl⟩ := hq_
    by_cases c5 : t294 = true
    ·subst c5
     rw [if_pos rfl] at H
     replace H := Option.bind_eq_some_iff.mp H
     obtain ⟨t295, A60, H⟩ := H
     try dsimp only at H
     have A6 := Aside0.mk A60
     clear A60
     go_wp2_with (first | (go_at_call 156; (with_reducible refine (impl_IsSign.calls t292 t295 _ A6.out).mono ?_); rintro e w7 ⟨rfl, hb⟩; replace HB := Aside0.mk (below_step hB hb); (try clear hb); (try clear hb2); (try clear hk); (try clear hi); refine halt_ ?_; intro q_ hq_))
     obtain ⟨rfl⟩ := hq_
     by_cases c8 : t295 = true
     ·subst c8
      rw [if_pos rfl] at H
      have H' := Aside0.mk H
      clear H
      go_wp2
      go_roundg k1
      case measure => have := HK1.out; omega
      case rel => exact ⟨(t293), rG, H', ⟨by have := HK1.out; omega⟩, ⟨hB⟩⟩
     ·replace c8 := Bool.eq_false_iff.mpr c8
      subst c8
      rw [if_neg (show ¬ (false = true) by decide)] at H
      obtain rfl := Option.some.inj H
      go_wp2
      go_ret
      exact ⟨rE, hB⟩
    ·replace c5 := Bool.eq_false_iff.mpr c5
     subst c5
     rw [if_neg (show ¬ (false = true) by decide)] at H
     obtain rfl := Option.some.inj H
     go_wp2
     go_ret
     exact ⟨rE, hB⟩
   ·rw [if_neg c2] at H
    have c2b0 : decide (x3_1 < (a0.size : Int)) = false := decide_eq_false c2
    clear c2
    obtain rfl := Option.some.inj H
    go_wp2
    go_ret
    exact ⟨rE, hB⟩

/-! ### impl_TextOk: function 107 -/
def impl_TextOk.f (k : Nat) (a0 : ByteArray) : Option (Bool) := if (a0.size : Int) ≤ 600 then ((impl_signsOk.f k a0).bind fun t296 => (some t296)) else (some false)
theorem impl_TextOk.mono : ∀ a0 k, LeO (impl_TextOk.f k a0) (impl_TextOk.f (k + 1) a0) := by
 intro a0 k
 unfold impl_TextOk.f
 repeat' first
   | (with_reducible exact impl_signsOk.mono _ _)
   | (with_reducible exact LeO.refl _)
   | (with_reducible exact LeO.none _)
   | (with_reducible refine LeO.ite ?_ ?_)
   | (with_reducible refine LeO.bind ?_ (fun _ => ?_))
   | exact impl_signsOk.mono _ _
   | exact LeO.none _
   | refine LeO.ite ?_ ?_
   | refine LeO.bind ?_ (fun _ => ?_)
theorem impl_TextOk.calls (k : Nat) (a0 : ByteArray) (r : Bool) (w : World) (hTab : Tabs w) (h : impl_TextOk.f k a0 = some r) :
  Calls Tryz.prog 107 #[.string a0] w fun e w' => e = .returned (.bool r) ∧ Below w.heap.size w w' := by
 have HT := Aside0.mk hTab
 clear hTab
 have HB := Aside0.mk (Below.refl w.heap.size w)
 have H : (if (a0.size : Int) ≤ 600 then ((impl_signsOk.f k a0).bind fun t296 => (some t296)) else (some false)) = some r := h
 clear h
 by_cases c2 : (a0.size : Int) ≤ 600
 ·rw [if_pos c2] at H
  have c2b0 : decide ((a0.size : Int) ≤ 600) = true := decide_eq_true c2
  have c2b1 : decide (a0.size ≤ 600) = true := decide_eq_true (by omega)
  clear c2
  replace H := Option.bind_eq_some_iff.mp H
  obtain ⟨t296, A30, H⟩ := H
  try dsimp only at H
  have A3 := Aside0.mk A30
  clear A30
  obtain rfl := Option.some.inj H
  go_enter Tryz.func107, Tryz.ntmps107
  go_wp2_with (first | (go_at_call 136; (with_reducible refine (impl_signsOk.calls k a0 t296 _ ?tabs A3.out).mono ?_); (case tabs => first | exact Tabs.below HT.out hB | (repeat (first | exact HT.out | (with_reducible refine Tabs.drewN ?_ _) | (with_reducible refine Tabs.drew ?_) | (with_reducible refine Tabs.alloc ?_ _)))); rintro e w4 ⟨rfl, hb⟩; replace HB := Aside0.mk (below_step hB hb); (try clear hb); (try clear hb2); (try clear hk); (try clear hi)))
  go_ret
  exact ⟨rE, hB⟩
 ·rw [if_neg c2] at H
  have c2b0 : decide ((a0.size : Int) ≤ 600) = false := decide_eq_false c2
  have c2b1 : decide (a0.size ≤ 600) = false := decide_eq_false (by omega)
  clear c2
  obtain rfl := Option.some.inj H
  go_enter Tryz.func107, Tryz.ntmps107
  go_wp2
  go_ret
  exact ⟨rE, hB⟩

/-! ### strings_Contains: function 137 -/
def strings_Contains.f (a0 a1 : ByteArray) : Option Bool := if a0.size < 4294967281 then some (Lib.contains a0.data.toList a1.data.toList) else none
theorem strings_Contains.calls (a0 a1 : ByteArray) (r : Bool) (w : World) (hTab : Tabs w) (h : strings_Contains.f a0 a1 = some r) :
    Calls Tryz.prog 137 #[.string a0, .string a1] w fun e w' => e = .returned (.bool r) ∧ Below w.heap.size w w' := by
  unfold strings_Contains.f at h
  split at h
  · rename_i hc
    cases h
    obtain ⟨m, hm⟩ := hTab.maxlen
    exact (Tryz.strings_Contains a0 a1 m w hc hm).mono fun e w' ⟨he, hw⟩ => ⟨he, by subst hw; exact Below.refl _ _⟩
  · cases h

/-! ### stringslite_HasSuffix: function 158 -/
def stringslite_HasSuffix.f (a0 : ByteArray) (a1 : ByteArray) : Option (Bool) := if (a0.size : Int) ≥ (a1.size : Int) then (if 0 ≤ (wrap64 ((a0.size : Int) - (a1.size : Int))) then (if (wrap64 ((a0.size : Int) - (a1.size : Int))) ≤ (a0.size : Int) then (some ((a0.extract ((wrap64 ((a0.size : Int) - (a1.size : Int))) : Int).toNat a0.size).toList == a1.toList)) else (none)) else (none)) else (some false)
theorem stringslite_HasSuffix.calls (a0 : ByteArray) (a1 : ByteArray) (r : Bool) (w : World) (h : stringslite_HasSuffix.f a0 a1 = some r) :
  Calls Tryz.prog 158 #[.string a0, .string a1] w fun e w' => e = .returned (.bool r) ∧ Drawn0 w w' := by
 have H : (if (a0.size : Int) ≥ (a1.size : Int) then (if 0 ≤ (wrap64 ((a0.size : Int) - (a1.size : Int))) then (if (wrap64 ((a0.size : Int) - (a1.size : Int))) ≤ (a0.size : Int) then (some ((a0.extract ((wrap64 ((a0.size : Int) - (a1.size : Int))) : Int).toNat a0.size).toList == a1.toList)) else (none)) else (none)) else (some false)) = some r := h
 clear h
 by_cases c3 : (a0.size : Int) ≥ (a1.size : Int)
 ·rw [if_pos c3] at H
  have c3b0 : decide ((a1.size : Int) ≤ (a0.size : Int)) = true := decide_eq_true c3
  have c3b1 : decide (a1.size ≤ a0.size) = true := decide_eq_true (Int.ofNat_le.mp c3)
  clear c3
  obtain ⟨ji4, hji4⟩ : ∃ j_ : Int, (wrap64 ((a0.size : Int) - (a1.size : Int))) = j_ := ⟨_, rfl⟩
  replace H : (if 0 ≤ (ji4) then (if (ji4) ≤ (a0.size : Int) then (some ((a0.extract ((ji4) : Int).toNat a0.size).toList == a1.toList)) else (none)) else (none)) = some r := by first | (rw [hji4] at H; exact H) | (simp only [hji4] at H ⊢; exact H)
  have hji4w : (IntKind.i64.wrap ((a0.size : Int) - (a1.size : Int))) = ji4 := (i64_w _).trans hji4
  obtain ⟨c5, H⟩ := if_som H
  obtain ⟨c5b0, c5b1⟩ := fcT c5
  clear c5
  obtain ⟨c6, H⟩ := if_som H
  obtain ⟨c6b0, c6b1⟩ := fcT c6
  clear c6
  obtain rfl := Option.some.inj H
  go_enter Tryz.func158, Tryz.ntmps158
  go_wp2
  go_ret
  exact ⟨by first | rfl | (simp; done) | (simp only [← hji4] <;> (first | rfl | simp)) | (simp [*]; done), by repeat (first | exact Drawn0.refl _ | apply Drawn0.step)⟩
 ·rw [if_neg c3] at H
  have c3b0 : decide ((a1.size : Int) ≤ (a0.size : Int)) = false := decide_eq_false c3
  have c3b1 : decide (a1.size ≤ a0.size) = false := decide_eq_false (fun h => c3 (Int.ofNat_le.mpr h))
  clear c3
  obtain rfl := Option.some.inj H
  go_enter Tryz.func158, Tryz.ntmps158
  go_wp2
  go_ret
  exact ⟨by first | rfl | (simp; done) | (simp [*]; done), by repeat (first | exact Drawn0.refl _ | apply Drawn0.step)⟩

/-! ### strings_HasSuffix: function 138 -/
def strings_HasSuffix.f (a0 : ByteArray) (a1 : ByteArray) : Option (Bool) := (stringslite_HasSuffix.f a0 a1).bind fun t297 => (some t297)
theorem strings_HasSuffix.calls (a0 : ByteArray) (a1 : ByteArray) (r : Bool) (w : World) (h : strings_HasSuffix.f a0 a1 = some r) :
  Calls Tryz.prog 138 #[.string a0, .string a1] w fun e w' => e = .returned (.bool r) ∧ Drawn0 w w' := by
 have H : ((stringslite_HasSuffix.f a0 a1).bind fun t297 => (some t297)) = some r := h
 clear h
 replace H := Option.bind_eq_some_iff.mp H
 obtain ⟨t297, A30, H⟩ := H
 try dsimp only at H
 have A3 := Aside0.mk A30
 clear A30
 obtain rfl := Option.some.inj H
 go_enter Tryz.func138, Tryz.ntmps138
 go_wp2_with (first | ((with_reducible refine gate_callee (f := 158) rfl ?_); refine goesL_ (some 7) rfl rfl Tryz.func158 (by kernel_rfl) rfl #[.string a0, .string a1] rfl mA ?_; (with_reducible refine (stringslite_HasSuffix.calls a0 a1 t297 _ A3.out).mono ?_); rintro e w' ⟨rfl, ⟨nd, rfl⟩⟩; refine ⟨_, rfl, ?_⟩))
 go_ret
 exact ⟨by first | rfl | (simp; done) | (simp [*]; done), by repeat (first | exact Drawn0.refl _ | apply Drawn0.step)⟩

/-! ### impl_noteOk: function 108 -/
def impl_noteOk.f (k : Nat) (a0 : ByteArray) : Option (Bool) := (impl_TextOk.f k a0).bind fun t298 => (if t298 = true then ((strings_Contains.f a0 (⟨#[45, 45]⟩ : ByteArray)).bind fun t299 => (if t299 = true then (some false) else ((strings_HasSuffix.f a0 (⟨#[45]⟩ : ByteArray)).bind fun t300 => (if t300 = true then (some false) else ((strings_Contains.f a0 (⟨#[13]⟩ : ByteArray)).bind fun t301 => (some (!t301))))))) else (some false))
theorem impl_noteOk.mono : ∀ a0 k, LeO (impl_noteOk.f k a0) (impl_noteOk.f (k + 1) a0) := by
 intro a0 k
 unfold impl_noteOk.f
 repeat' first
   | (with_reducible exact impl_TextOk.mono _ _)
   | (with_reducible exact LeO.refl _)
   | (with_reducible exact LeO.none _)
   | (with_reducible refine LeO.ite ?_ ?_)
   | (with_reducible refine LeO.bind ?_ (fun _ => ?_))
   | exact impl_TextOk.mono _ _
   | exact LeO.none _
   | refine LeO.ite ?_ ?_
   | refine LeO.bind ?_ (fun _ => ?_)
theorem impl_noteOk.calls (k : Nat) (a0 : ByteArray) (r : Bool) (w : World) (hTab : Tabs w) (h : impl_noteOk.f k a0 = some r) :
  Calls Tryz.prog 108 #[.string a0] w fun e w' => e = .returned (.bool r) ∧ Below w.heap.size w w' := by
 have HT := Aside0.mk hTab
 clear hTab
 have HB := Aside0.mk (Below.refl w.heap.size w)
 have H : ((impl_TextOk.f k a0).bind fun t298 => (if t298 = true then ((strings_Contains.f a0 (⟨#[45, 45]⟩ : ByteArray)).bind fun t299 => (if t299 = true then (some false) else ((strings_HasSuffix.f a0 (⟨#[45]⟩ : ByteArray)).bind fun t300 => (if t300 = true then (some false) else ((strings_Contains.f a0 (⟨#[13]⟩ : ByteArray)).bind fun t301 => (some (!t301))))))) else (some false))) = some r := h
 clear h
 replace H := Option.bind_eq_some_iff.mp H
 obtain ⟨t298, A20, H⟩ := H
 try dsimp only at H
 have A2 := Aside0.mk A20
 clear A20
 go_enter Tryz.func108, Tryz.ntmps108
 go_wp2_with (first | ((with_reducible refine gate_callee (f := 107) rfl ?_); refine goesL_ (some 4) rfl rfl Tryz.func107 (by kernel_rfl) rfl #[.string a0] rfl mA ?_; (with_reducible refine (impl_TextOk.calls k a0 t298 _ ?tabs A2.out).mono ?_); (case tabs => first | exact Tabs.below HT.out hB | (repeat (first | exact HT.out | (with_reducible refine Tabs.drewN ?_ _) | (with_reducible refine Tabs.drew ?_) | (with_reducible refine Tabs.alloc ?_ _)))); rintro e w3 ⟨rfl, hb⟩; refine ⟨_, rfl, ?_⟩; replace HB := Aside0.mk (below_step hB hb); (try clear hb); (try clear hb2); (try clear hk); (try clear hi); refine halt_ ?_; intro q_ hq_))
 obtain ⟨rfl⟩ := hq_
 by_cases c4 : t298 = true
 ·subst c4
  rw [if_pos rfl] at H
  replace H := Option.bind_eq_some_iff.mp H
  obtain ⟨t299, A50, H⟩ := H
  try dsimp only at H
  have A5 := Aside0.mk A50
  clear A50
  go_wp2_with (first | (go_at_call 137; (with_reducible refine (strings_Contains.calls a0 (⟨#[45, 45]⟩ : ByteArray) t299 _ ?tabs A5.out).mono ?_); (case tabs => first | exact Tabs.below HT.out hB | (repeat (first | exact HT.out | (with_reducible refine Tabs.drewN ?_ _) | (with_reducible refine Tabs.drew ?_) | (with_reducible refine Tabs.alloc ?_ _)))); rintro e w6 ⟨rfl, hb⟩; replace HB := Aside0.mk (below_step hB hb); (try clear hb); (try clear hb2); (try clear hk); (try clear hi); refine halt_ ?_; intro q_ hq_))
  obtain ⟨rfl⟩ := hq_
  by_cases c7 : t299 = true
  ·subst c7
   rw [if_pos rfl] at H
   obtain rfl := Option.some.inj H
   go_wp2
   go_ret
   exact ⟨rE, hB⟩
  ·replace c7 := Bool.eq_false_iff.mpr c7
   subst c7
   rw [if_neg (show ¬ (false = true) by decide)] at H
   replace H := Option.bind_eq_some_iff.mp H
   obtain ⟨t300, A80, H⟩ := H
   try dsimp only at H
   have A8 := Aside0.mk A80
   clear A80
   go_wp2_with (first | (go_at_call 138; (with_reducible refine (strings_HasSuffix.calls a0 (⟨#[45]⟩ : ByteArray) t300 _ A8.out).mono ?_); rintro e w' ⟨rfl, ⟨nd, rfl⟩⟩; refine halt_ ?_; intro q_ hq_))
   obtain ⟨rfl⟩ := hq_
   by_cases c9 : t300 = true
   ·subst c9
    rw [if_pos rfl] at H
    obtain rfl := Option.some.inj H
    go_wp2
    go_ret
    exact ⟨rE, hB⟩
   ·replace c9 := Bool.eq_false_iff.mpr c9
    subst c9
    rw [if_neg (show ¬ (false = true) by decide)] at H
    replace H := Option.bind_eq_some_iff.mp H
    obtain ⟨t301, A100, H⟩ := H
    try dsimp only at H
    have A10 := Aside0.mk A100
    clear A100
    obtain rfl := Option.some.inj H
    go_wp2_with (first | (go_at_call 137; (with_reducible refine (strings_Contains.calls a0 (⟨#[13]⟩ : ByteArray) t301 _ ?tabs A10.out).mono ?_); (case tabs => first | exact Tabs.below HT.out hB | (repeat (first | exact HT.out | (with_reducible refine Tabs.drewN ?_ _) | (with_reducible refine Tabs.drew ?_) | (with_reducible refine Tabs.alloc ?_ _)))); rintro e w11 ⟨rfl, hb⟩; replace HB := Aside0.mk (below_step hB hb); (try clear hb); (try clear hb2); (try clear hk); (try clear hi)))
    go_ret
    exact ⟨rE, hB⟩
 ·replace c4 := Bool.eq_false_iff.mpr c4
  subst c4
  rw [if_neg (show ¬ (false = true) by decide)] at H
  obtain rfl := Option.some.inj H
  go_wp2
  go_ret
  exact ⟨rE, hB⟩

/-! ### impl_IsStart: function 112 -/
def impl_IsStart.l : List (Int × Int) := [(65, 90), (95, 95), (97, 122), (192, 214), (216, 246), (248, 767), (880, 893), (895, 8191), (8204, 8205), (8304, 8591), (11264, 12271), (12289, 55295), (63744, 64975), (65008, 65533), (65536, 983039)]
def impl_IsStart.f (a0 : Int) : Option Bool := some (impl_IsStart.l.any (impl_inAny.has a0))
set_option maxHeartbeats 2000000 in
theorem impl_IsStart.calls (a0 : Int) (r : Bool) (w : World) (h : impl_IsStart.f a0 = some r) : Calls Tryz.prog 112 #[.int .i64 a0] w fun e w' => e = .returned (.bool r) ∧ Below w.heap.size w w' := by
  have h' : impl_IsStart.l.any (impl_inAny.has a0) = r := Option.some.inj h
  have HR := Aside0.mk h'
  clear h h'
  go_enter Tryz.func112, Tryz.ntmps112
  go_wp2_with (go_at_call 143; refine (impl_inAny.lit_calls a0 impl_IsStart.l w _ _ _ _ (by rfl) (by rfl) (by decide) (by rfl) (by rfl)).mono ?_; rintro e w' ⟨rfl, hb⟩)
  go_ret
  exact ⟨by rw [← HR.out]; rfl, hb⟩

/-! ### impl_IsPart: function 113 -/
def impl_IsPart.l : List (Int × Int) := [(45, 46), (48, 57), (183, 183), (768, 879), (8255, 8256)]
def impl_IsPart.f (a0 : Int) : Option Bool := some (impl_IsStart.l.any (impl_inAny.has a0) || impl_IsPart.l.any (impl_inAny.has a0))
set_option maxHeartbeats 2000000 in
theorem impl_IsPart.calls (a0 : Int) (r : Bool) (w : World) (h : impl_IsPart.f a0 = some r) : Calls Tryz.prog 113 #[.int .i64 a0] w fun e w' => e = .returned (.bool r) ∧ Below w.heap.size w w' := by
  have h' : (impl_IsStart.l.any (impl_inAny.has a0) || impl_IsPart.l.any (impl_inAny.has a0)) = r := Option.some.inj h
  have HR := Aside0.mk h'
  clear h h'
  cases hs : impl_IsStart.l.any (impl_inAny.has a0) with
  | true =>
    have hS := impl_IsStart.calls a0 true w (by unfold impl_IsStart.f; rw [hs])
    have HS := Aside0.mk hs
    clear hs
    go_enter Tryz.func113, Tryz.ntmps113
    go_wp2_with (go_at_call 112; refine hS.mono ?_; rintro e w' ⟨rfl, hb⟩)
    go_ret
    exact ⟨by rw [← HR.out, HS.out]; rfl, hb⟩
  | false =>
    have hS := impl_IsStart.calls a0 false w (by unfold impl_IsStart.f; rw [hs])
    have HS := Aside0.mk hs
    clear hs
    go_enter Tryz.func113, Tryz.ntmps113
    go_wp2_with (first | (go_at_call 112; refine hS.mono ?_; rintro e w1 ⟨rfl, hb⟩) | (go_at_call 143; refine (impl_inAny.lit_calls a0 impl_IsPart.l _ _ _ _ _ (by rfl) (by rfl) (by decide) (by rfl) (by rfl)).mono ?_; rintro e w' ⟨rfl, hb2⟩))
    go_ret
    exact ⟨by rw [← HR.out, HS.out]; rfl, hb.trans (hb2.mono hb.size)⟩

/-! ### impl_PlainOk: function 81 -/
def impl_PlainOk.l0 : Nat → ByteArray → Int → Option (Bool)
 | 0, _, _ => none
 | k + 1, x0, x3 => if x3 < (x0.size : Int) then ((impl_SignAt.f x0 x3).bind fun bt303 => (if bt303.2.2 = true then (if x3 = 0 then ((impl_IsStart.f bt303.1).bind fun t306 => (if t306 = true then ((impl_IsPart.f bt303.1).bind fun t307 => (if t307 = true then (impl_PlainOk.l0 k x0 bt303.2.1) else (some false))) else (some false))) else ((impl_IsPart.f bt303.1).bind fun t308 => (if t308 = true then (impl_PlainOk.l0 k x0 bt303.2.1) else (some false)))) else (some false))) else ((impl_in.f (x0.size : Int) 1 16).bind fun t302 => (some t302))
def impl_PlainOk.f (k : Nat) (a0 : ByteArray) : Option (Bool) := impl_PlainOk.l0 k a0 0
theorem impl_PlainOk.mono_l : ∀ k, (∀ y0 y1, LeO (impl_PlainOk.l0 k y0 y1) (impl_PlainOk.l0 (k + 1) y0 y1))
 | 0 => fun _ _ r h => by simp [impl_PlainOk.l0] at h
 | k + 1 => by
  have ih0 := impl_PlainOk.mono_l k
  ·intro y0 y1
   unfold impl_PlainOk.l0
   repeat' first
   | (with_reducible exact ih0 _ _)
   | (with_reducible exact LeO.refl _)
   | (with_reducible exact LeO.none _)
   | (with_reducible refine LeO.ite ?_ ?_)
   | (with_reducible refine LeO.bind ?_ (fun _ => ?_))
   | exact ih0 _ _
   | exact LeO.none _
   | refine LeO.ite ?_ ?_
   | refine LeO.bind ?_ (fun _ => ?_)
theorem impl_PlainOk.mono : ∀ a0 k, LeO (impl_PlainOk.f k a0) (impl_PlainOk.f (k + 1) a0) := by
 intro a0 k
 have ih0 := impl_PlainOk.mono_l k
 unfold impl_PlainOk.f
 repeat' first
   | (with_reducible exact ih0 _ _)
   | (with_reducible exact LeO.refl _)
   | (with_reducible exact LeO.none _)
   | (with_reducible refine LeO.ite ?_ ?_)
   | (with_reducible refine LeO.bind ?_ (fun _ => ?_))
   | exact ih0 _ _
   | exact LeO.none _
   | refine LeO.ite ?_ ?_
   | refine LeO.bind ?_ (fun _ => ?_)
theorem impl_PlainOk.calls (k : Nat) (a0 : ByteArray) (r : Bool) (w : World) (hTab : Tabs w) (h : impl_PlainOk.f k a0 = some r) :
  Calls Tryz.prog 81 #[.string a0] w fun e w' => e = .returned (.bool r) ∧ Below w.heap.size w w' := by
 have HT := Aside0.mk hTab
 clear hTab
 have HB := Aside0.mk (Below.refl w.heap.size w)
 have H : (impl_PlainOk.l0 k a0 0) = some r := h
 clear h
 have H' := Aside0.mk H
 clear H
 go_enter Tryz.func81, Tryz.ntmps81
 go_wp2
 go_loopg [3] k (fun kq v3 w' => ∃ (x3_1 : Int), v3 = .int .i64 x3_1 ∧ Aside0 (impl_PlainOk.l0 kq a0 x3_1 = some r) ∧ Aside0 (kq ≤ k) ∧ Aside0 (Below w.heap.size w w'))
 case atStart => exact ⟨(0), rG, H', ⟨Nat.le_refl _⟩, ⟨hB⟩⟩
 case round =>
  clear H'
  obtain ⟨x3_1, rfl, HA, HK1, HB⟩ := hrel
  cases gk with
  | zero => exact absurd HA.out (by simp [impl_PlainOk.l0])
  | succ k1 =>
   have H := HA.out
   clear HA
   simp only [impl_PlainOk.l0] at H
   by_cases c2 : x3_1 < (a0.size : Int)
   ·rw [if_pos c2] at H
    have c2b0 : decide (x3_1 < (a0.size : Int)) = true := decide_eq_true c2
    clear c2
    replace H := Option.bind_eq_some_iff.mp H
    obtain ⟨⟨t303, t304, t305⟩, A30, H⟩ := H
    try dsimp only at H
    have A3 := Aside0.mk A30
    clear A30
    go_wp2_with (first | ((with_reducible refine gate_callee (f := 111) rfl ?_); refine goesL_ (some 14) rfl rfl Tryz.func111 (by kernel_rfl) rfl #[.string a0, .int .i64 x3_1] rfl mA ?_; (with_reducible refine (impl_SignAt.calls a0 x3_1 t303 t304 t305 _ ?tabs A3.out).mono ?_); (case tabs => first | exact Tabs.below HT.out hB | (repeat (first | exact HT.out | (with_reducible refine Tabs.drewN ?_ _) | (with_reducible refine Tabs.drew ?_) | (with_reducible refine Tabs.alloc ?_ _)))); rintro e w4 ⟨rfl, hb⟩; refine ⟨_, rfl, ?_⟩; replace HB := Aside0.mk (below_step hB hb); (try clear hb); (try clear hb2); (try clear hk); (try clear hi); refine halt_ ?_; intro q_ hq_))
    obtain ⟨rfl⟩ := hq_
    by_cases c5 : t305 = true
    ·subst c5
     rw [if_pos rfl] at H
     by_cases c6 : x3_1 = 0
     ·rw [if_pos c6] at H
      obtain ⟨c6b0, c6b1⟩ := eqT c6
      clear c6
      replace H := Option.bind_eq_some_iff.mp H
      obtain ⟨t306, A70, H⟩ := H
      try dsimp only at H
      have A7 := Aside0.mk A70
      clear A70
      go_wp2_with (first | (go_at_call 112; (with_reducible refine (impl_IsStart.calls t303 t306 _ A7.out).mono ?_); rintro e w8 ⟨rfl, hb⟩; replace HB := Aside0.mk (below_step hB hb); (try clear hb); (try clear hb2); (try clear hk); (try clear hi); refine halt_ ?_; intro q_ hq_))
      obtain ⟨rfl⟩ := hq_
      by_cases c9 : t306 = true
      ·subst c9
       rw [if_pos rfl] at H
       replace H := Option.bind_eq_some_iff.mp H
       obtain ⟨t307, A100, H⟩ := H
       try dsimp only at H
       have A10 := Aside0.mk A100
       clear A100
       go_wp2_with (first | (go_at_call 113; (with_reducible refine (impl_IsPart.calls t303 t307 _ A10.out).mono ?_); rintro e w11 ⟨rfl, hb⟩; replace HB := Aside0.mk (below_step hB hb); (try clear hb); (try clear hb2); (try clear hk); (try clear hi); refine halt_ ?_; intro q_ hq_))
       obtain ⟨rfl⟩ := hq_
       by_cases c12 : t307 = true
       ·subst c12
        rw [if_pos rfl] at H
        have H' := Aside0.mk H
        clear H
        go_wp2
        go_roundg k1
        case measure => have := HK1.out; omega
        case rel => exact ⟨(t304), rG, H', ⟨by have := HK1.out; omega⟩, ⟨hB⟩⟩
       ·replace c12 := Bool.eq_false_iff.mpr c12
        subst c12
        rw [if_neg (show ¬ (false = true) by decide)] at H
        obtain rfl := Option.some.inj H
        go_wp2
        go_ret
        exact ⟨rE, hB⟩
      ·replace c9 := Bool.eq_false_iff.mpr c9
       subst c9
       rw [if_neg (show ¬ (false = true) by decide)] at H
       obtain rfl := Option.some.inj H
       go_wp2
       go_ret
       exact ⟨rE, hB⟩
     ·rw [if_neg c6] at H
      obtain ⟨c6b0, c6b1⟩ := eqF c6
      replace H := Option.bind_eq_some_iff.mp H
      obtain ⟨t308, A130, H⟩ := H
      try dsimp only at H
      have A13 := Aside0.mk A130
      clear A130
      go_wp2_with (first | (go_at_call 113; (with_reducible refine (impl_IsPart.calls t303 t308 _ A13.out).mono ?_); rintro e w14 ⟨rfl, hb⟩; replace HB := Aside0.mk (below_step hB hb); (try clear hb); (try clear hb2); (try clear hk); (try clear hi); refine halt_ ?_; intro q_ hq_))
      obtain ⟨rfl⟩ := hq_
      by_cases c15 : t308 = true
      ·subst c15
       rw [if_pos rfl] at H
       have H' := Aside0.mk H
       clear H
       go_wp2
       go_roundg k1
       case measure => have := HK1.out; omega
       case rel => exact ⟨(t304), rG, H', ⟨by have := HK1.out; omega⟩, ⟨hB⟩⟩
      ·replace c15 := Bool.eq_false_iff.mpr c15
       subst c15
       rw [if_neg (show ¬ (false = true) by decide)] at H
       obtain rfl := Option.some.inj H
       go_wp2
       go_ret
       exact ⟨rE, hB⟩
    ·replace c5 := Bool.eq_false_iff.mpr c5
     subst c5
     rw [if_neg (show ¬ (false = true) by decide)] at H
     obtain rfl := Option.some.inj H
     go_wp2
     go_ret
     exact ⟨rE, hB⟩
   ·rw [if_neg c2] at H
    have c2b0 : decide (x3_1 < (a0.size : Int)) = false := decide_eq_false c2
    clear c2
    replace H := Option.bind_eq_some_iff.mp H
    obtain ⟨t302, A160, H⟩ := H
    try dsimp only at H
    have A16 := Aside0.mk A160
    clear A160
    obtain rfl := Option.some.inj H
    go_wp2_with (first | ((with_reducible refine gate_callee (f := 114) rfl ?_); refine goesL_ (some 37) rfl rfl Tryz.func114 (by kernel_rfl) rfl #[.int .i64 (a0.size : Int), .int .i64 1, .int .i64 16] rfl mA ?_; (with_reducible refine (impl_in.calls (a0.size : Int) 1 16 t302 _ A16.out).mono ?_); rintro e w' ⟨rfl, ⟨nd, rfl⟩⟩; refine ⟨_, rfl, ?_⟩))
    go_ret
    exact ⟨rE, hB⟩

/-! ### strings_EqualFold: function 139 -/
def strings_EqualFold.f (a0 a1 : ByteArray) : Option Bool := if a0.size < 4294967281 ∧ a1.toList = [120, 109, 108] then some (Lib.equalFold a0.data.toList a1.data.toList) else none
theorem strings_EqualFold.calls (a0 a1 : ByteArray) (r : Bool) (w : World) (hTab : Tabs w) (h : strings_EqualFold.f a0 a1 = some r) :
    Calls Tryz.prog 139 #[.string a0, .string a1] w fun e w' => e = .returned (.bool r) ∧ Below w.heap.size w w' := by
  unfold strings_EqualFold.f at h
  split at h
  · rename_i hc
    cases h
    have h1 : a1.data.toList = [120, 109, 108] := (Lib.toList_data a1).symm.trans hc.2
    refine Fold.equalFold a0 a1 w hc.1 (by rw [Lib.size_eq, h1]; simp) (fun j b hb => ?_) hTab.fold
    rw [h1] at hb
    rcases j with _ | _ | _ | j <;> simp at hb
    · exact .inl (by subst hb; rfl)
    · exact .inr (.inl (by subst hb; rfl))
    · exact .inr (.inr (by subst hb; rfl))
  · cases h

/-! ### impl_IsBlank: function 140 -/
def impl_IsBlank.f (a0 : Int) : Option (Bool) := if a0 = 9 then (some true) else (if a0 = 10 then (some true) else (if a0 = 13 then (some true) else (some (a0 == 32))))
theorem impl_IsBlank.calls (a0 : Int) (r : Bool) (w : World) (h : impl_IsBlank.f a0 = some r) :
  Calls Tryz.prog 140 #[.int .i64 a0] w fun e w' => e = .returned (.bool r) ∧ Drawn0 w w' := by
 have H : (if a0 = 9 then (some true) else (if a0 = 10 then (some true) else (if a0 = 13 then (some true) else (some (a0 == 32))))) = some r := h
 clear h
 by_cases c2 : a0 = 9
 ·rw [if_pos c2] at H
  obtain ⟨c2b0, c2b1⟩ := eqT c2
  clear c2
  obtain rfl := Option.some.inj H
  go_enter Tryz.func140, Tryz.ntmps140
  go_wp2
  go_ret
  exact ⟨by first | rfl | (simp; done) | (simp [*]; done), by repeat (first | exact Drawn0.refl _ | apply Drawn0.step)⟩
 ·rw [if_neg c2] at H
  obtain ⟨c2b0, c2b1⟩ := eqF c2
  by_cases c3 : a0 = 10
  ·rw [if_pos c3] at H
   obtain ⟨c3b0, c3b1⟩ := eqT c3
   clear c3
   obtain rfl := Option.some.inj H
   go_enter Tryz.func140, Tryz.ntmps140
   go_wp2
   go_ret
   exact ⟨by first | rfl | (simp; done) | (simp [*]; done), by repeat (first | exact Drawn0.refl _ | apply Drawn0.step)⟩
  ·rw [if_neg c3] at H
   obtain ⟨c3b0, c3b1⟩ := eqF c3
   by_cases c4 : a0 = 13
   ·rw [if_pos c4] at H
    obtain ⟨c4b0, c4b1⟩ := eqT c4
    clear c4
    obtain rfl := Option.some.inj H
    go_enter Tryz.func140, Tryz.ntmps140
    go_wp2
    go_ret
    exact ⟨by first | rfl | (simp; done) | (simp [*]; done), by repeat (first | exact Drawn0.refl _ | apply Drawn0.step)⟩
   ·rw [if_neg c4] at H
    obtain ⟨c4b0, c4b1⟩ := eqF c4
    obtain rfl := Option.some.inj H
    go_enter Tryz.func140, Tryz.ntmps140
    go_wp2
    go_ret
    exact ⟨by first | rfl | (simp; done) | (simp [*]; done), by repeat (first | exact Drawn0.refl _ | apply Drawn0.step)⟩

end Go.Proofs.YtalionlkjdgciaaGreatDoor.PL
