-- Written by the session's program hprint.py, over the kit's print program. Lean checks it.
import Derived.Test.YtgchgcfjbjopkaaDoorPZx0
import Derived.Test.YtgchgcfjbjopkaaDoorPZx5
namespace Go.Proofs.YtgchgcfjbjopkaaDoor.PZ
open Go.RowKit Go.Proofs.YtgchgcfjbjopkaaDoorW.PrintWords Go.Proofs.YtgchgcfjbjopkaaDoorW.PrintLast Go.Proofs.YtgchgcfjbjopkaaDoorW.PrintMore
attribute [local go_sem] max2_int min2_int max_two min_two max_three min_three max_four min_four   -- for this text's walks alone
set_option linter.unusedVariables false
set_option linter.unusedSimpArgs false

/-! ### impl_TextOk: function 56 -/
def impl_TextOk.f (k : Nat) (a0 : ByteArray) : Option (Bool) := if (a0.size : Int) ≤ 600 then ((impl_signsOk.f k a0).bind fun t198 => (some t198)) else (some false)
theorem impl_TextOk.mono : ∀ a0 k, LeO (impl_TextOk.f k a0) (impl_TextOk.f (k + 1) a0) := by
  intro a0 k
  unfold impl_TextOk.f
  repeat' first
      | (with_reducible exact impl_signsOk.mono _ _)
      | (with_reducible exact LeO.refl _)
      | (with_reducible exact LeO.none _)
      | (with_reducible refine LeO.ite ?_ ?_)
      | (with_reducible refine LeO.bind ?_ (fun _ => ?_))
      | exact impl_signsOk.mono _ _
      | exact LeO.none _
      | refine LeO.ite ?_ ?_
      | refine LeO.bind ?_ (fun _ => ?_)
set_option maxHeartbeats 8000000 in
set_option maxRecDepth 100000 in
theorem impl_TextOk.calls (k : Nat) (a0 : ByteArray) (r : Bool) (w : World) (hTab : Tabs w) (h : impl_TextOk.f k a0 = some r) :
    Calls Tryd.prog 56 #[.string a0] w fun e w' => e = .returned (.bool r) ∧ Below w.heap.size w w' := by
  have HT := Aside0.mk hTab
  clear hTab
  have HB := Aside0.mk (Below.refl w.heap.size w)
  have H : (if (a0.size : Int) ≤ 600 then ((impl_signsOk.f k a0).bind fun t198 => (some t198)) else (some false)) = some r := h
  clear h
  by_cases c2 : (a0.size : Int) ≤ 600
  · rw [if_pos c2] at H
    have c2b0 : decide ((a0.size : Int) ≤ 600) = true := decide_eq_true c2
    have c2b1 : decide (a0.size ≤ 600) = true := decide_eq_true (by omega)
    clear c2
    replace H := Option.bind_eq_some_iff.mp H
    obtain ⟨t198, A30, H⟩ := H
    replace H : (some t198) = some r := H
    have A3 := Aside0.mk A30
    clear A30
    obtain rfl := Option.some.inj H
    go_enter Tryd.func56, Tryd.ntmps56
    go_wp2_with (first | (go_at_call 85; (with_reducible refine (impl_signsOk.calls k a0 t198 _ ?tabs A3.out).mono ?_); (case tabs => first | exact Tabs.below HT.out (by repeat (first | (with_reducible first | exact HB.out | apply below_alloc | apply pw_below_drewN | apply below_drew1) | exact HB.out)) | (repeat (first | exact HT.out | (with_reducible refine Tabs.drewN ?_ _) | (with_reducible refine Tabs.drew ?_) | (with_reducible refine Tabs.alloc ?_ _)))); rintro e w4 ⟨rfl, hb⟩; have n0_ := Aside0.mk (below_step (by repeat (first | (with_reducible first | exact HB.out | apply below_alloc | apply pw_below_drewN | apply below_drew1) | exact HB.out)) hb); clear HB; have HB := n0_; clear n0_; (try clear hb); (try clear hb2); (try clear hk); (try clear hi)))
    go_ret
    exact ⟨by first | rfl | (simp [errW_none, errW_some] <;> rfl) | (simp [*, errW_none, errW_some] <;> rfl), by repeat (first | (with_reducible first | exact HB.out | apply below_alloc | apply pw_below_drewN | apply below_drew1) | exact HB.out)⟩
  · rw [if_neg c2] at H
    have c2b0 : decide ((a0.size : Int) ≤ 600) = false := decide_eq_false c2
    have c2b1 : decide (a0.size ≤ 600) = false := decide_eq_false (by omega)
    clear c2
    obtain rfl := Option.some.inj H
    go_enter Tryd.func56, Tryd.ntmps56
    go_wp2
    go_ret
    exact ⟨by first | rfl | (simp [errW_none, errW_some] <;> rfl) | (simp [*, errW_none, errW_some] <;> rfl), by repeat (first | (with_reducible first | exact HB.out | apply below_alloc | apply pw_below_drewN | apply below_drew1) | exact HB.out)⟩

/-! ### impl_Ent: function 86 -/
def impl_Ent.val (d : S65) : Value := .agg #[.string d.f0, .string d.f1]
/-- What IndexFunc answers: the first place, or -1. -/
def impl_Ent.idx (p : S65 → Bool) (l : List S65) : Int := if l.findIdx p < l.length then ((l.findIdx p : Nat) : Int) else -1
theorem impl_Ent.idx_hit (p : S65 → Bool) (l : List S65) (k : Nat) (hk : k < l.length) (hp : p (rd_T65 l (k : Int)) = true) (h : ∀ j, j < k → p (rd_T65 l (j : Int)) = false) : impl_Ent.idx p l = (k : Int) := by
  have e : ∀ j, j < l.length → ∀ h, rd_T65 l (j : Int) = l[j]'h := fun j hj h => by simp [rd_T65, List.getD_eq_getElem?_getD, List.getElem?_eq_getElem hj]
  have : l.findIdx p = k := (List.findIdx_eq hk).2 ⟨by rw [← e k hk]; exact hp, fun j hj => by rw [← e j (by omega)]; exact h j hj⟩
  unfold impl_Ent.idx
  rw [this, if_pos hk]
theorem impl_Ent.idx_miss (p : S65 → Bool) (l : List S65) (h : ∀ j, j < l.length → p (rd_T65 l (j : Int)) = false) : impl_Ent.idx p l = -1 := by
  have : ¬ l.findIdx p < l.length := fun hlt => by
    have h1 := List.findIdx_getElem (w := hlt)
    have h2 := h _ hlt
    have e : rd_T65 l ((l.findIdx p : Nat) : Int) = l[l.findIdx p]'hlt := by simp [rd_T65, List.getD_eq_getElem?_getD, List.getElem?_eq_getElem hlt]
    rw [e, h1] at h2
    cases h2
  unfold impl_Ent.idx
  rw [if_neg this]
set_option maxHeartbeats 4000000 in
set_option maxRecDepth 100000 in
theorem impl_Ent.calls (p : S65 → Bool) (g : Nat) (lb : Array Value) (eg : ∀ args w, (callFunc g args).run Tryd.prog w = .ok (.enter g args) w) (A0 : Option Addr) (c0 : Nat) (l0 : List S65) (w : World)
    (hp : ∀ (W : World) (d : S65), Below w.heap.size w W → Calls Tryd.prog g (#[.agg #[.string d.f0, .string d.f1]] ++ lb) W fun e w' => e = .returned (.bool (p d)) ∧ Below W.heap.size W w')
    (hr0 : Kd.C k65 w A0 l0.length l0) (hl0 : l0.length ≤ 9223372036854775807) :
    Calls Tryd.prog 86 #[.slice A0 l0.length c0, .func (.func g) #[] lb] w fun e w' => e = .returned (.int .i64 (impl_Ent.idx p l0)) ∧ Below w.heap.size w w' := by
  have HR0 := Aside0.mk hr0
  have HP := Aside0.mk hp
  clear hr0 hp
  have hu := Tryd.underlying65
  go_enter Tryd.func86, Tryd.ntmps86
  go_wp2
  go_loopg [5, 8] l0.length (fun gg _ s8 wr => ∃ kk : Nat, kk ≤ l0.length ∧ l0.length - kk ≤ gg ∧ s8 = .int .i64 kk ∧ Aside0 (Below w.heap.size w wr) ∧ Aside0 (∀ j : Nat, j < kk → p (rd_T65 l0 (j : Int)) = false))
  case atStart => exact ⟨0, Nat.zero_le _, by omega, rfl, ⟨Below.refl _ w⟩, ⟨fun j hj => absurd hj (Nat.not_lt_zero _)⟩⟩
  case round =>
    obtain ⟨kk, hkk, hg, rfl, BW, A⟩ := hrel
    by_cases hlt : kk < l0.length
    · have hltz : (kk : Int) < (l0.length : Int) := by omega
      obtain ⟨ad, ead, z0, z1⟩ := at_T65 (Kd.C_below HR0.out BW.out) (kk : Int) (by omega) (by omega)
      simp only [Int.toNat_natCast] at z0 z1
      cases ead
      have hcall := HP.out wr (rd_T65 l0 (kk : Int)) BW.out
      generalize hd : rd_T65 l0 (kk : Int) = d at hcall z0 z1
      have HD := Aside0.mk hd
      clear hd
      cases hq : p d with
      | true =>
        rw [hq] at hcall
        have HQ := Aside0.mk hq
        clear hq
        go_wp2_with (go_at_fn g; refine hcall.mono ?_; rintro e w' ⟨rfl, hb'⟩)
        go_ret
        refine ⟨?_, BW.out.trans (hb'.mono BW.out.size)⟩
        rw [impl_Ent.idx_hit p l0 kk hlt (by rw [HD.out]; exact HQ.out) A.out]
        rfl
      | false =>
        rw [hq] at hcall
        have HQ := Aside0.mk hq
        clear hq
        go_wp2_with (go_at_fn g; refine hcall.mono ?_; rintro e w' ⟨rfl, hb'⟩)
        go_roundg (l0.length - (kk + 1))
        case measure => omega
        case rel =>
          refine ⟨kk + 1, by omega, by omega, by go_num, ⟨BW.out.trans (hb'.mono BW.out.size)⟩, ⟨fun j hj => ?_⟩⟩
          by_cases e : j = kk
          · subst e
            rw [HD.out]
            exact HQ.out
          · exact A.out j (by omega)
    · have hltz : ¬ (kk : Int) < (l0.length : Int) := by omega
      have : kk = l0.length := by omega
      subst this
      go_wp2
      go_ret
      exact ⟨by rw [impl_Ent.idx_miss p l0 A.out]; rfl, BW.out⟩

/-! ### impl_entAt: function 57 -/
def impl_entAt.p (n : ByteArray) (d : S65) : Bool := (d.f0.toList == n.toList)
def impl_entAt.f (l0 : List S65) (a1 : ByteArray) : Option Int := some (impl_Ent.idx (impl_entAt.p a1) l0)
set_option maxHeartbeats 1000000 in
theorem impl_entAt.lit (d : S65) (n : ByteArray) (B1 : Nat) (W : World) (h1 : W.cell? ⟨B1, 0, none⟩ = some (.string n)) :
    Calls Tryd.prog 87 #[.agg #[.string d.f0, .string d.f1], .pointer (some ⟨B1, 0, none⟩)] W
      fun e w' => e = .returned (.bool (impl_entAt.p n d)) ∧ Below W.heap.size W w' := by
  have hb1 : B1 < W.heap.size := World.block_lt_of_cell? W _ h1
  have hu := Tryd.underlying65
  unfold impl_entAt.p
  go_enter Tryd.func87, Tryd.ntmps87
  go_wp2
  go_ret
  exact ⟨rfl, below_alloc (Below.refl _ _) _⟩
theorem impl_entAt.one (w : World) (a : Value) (t : TypeId) : (w.alloc (.cells #[a] t)).cell? ⟨w.heap.size, 0, none⟩ = some a := by
  rw [World.cell?_alloc_at _ _ _ _ rfl]
  rfl
set_option maxHeartbeats 4000000 in
set_option maxRecDepth 100000 in
theorem impl_entAt.calls (A0 : Option Addr) (c0 : Nat) (l0 : List (S65)) (a1 : ByteArray) (r : Int) (w : World) (hr0 : Kd.C k65 w A0 l0.length l0) (hc0 : l0.length ≤ c0) (h : impl_entAt.f l0 a1 = some r) :
    Calls Tryd.prog 57 #[.slice A0 l0.length c0, .string a1] w fun e w' => e = .returned (.int .i64 r) ∧ Below w.heap.size w w' := by
  have hl0 : l0.length ≤ 9223372036854775807 := hr0.2.1
  have hC := fun (W : World) (hW : Below w.heap.size w W) (h1 : W.cell? ⟨w.heap.size, 0, none⟩ = some (.string a1)) =>
    impl_Ent.calls (impl_entAt.p a1) 87 #[.pointer (some ⟨w.heap.size, 0, none⟩)]
      (enters_of Tryd.func87 (by kernel_rfl) rfl) A0 c0 l0 W
      (fun W2 d hb => impl_entAt.lit d a1 _ W2 ((hb.cell (p := ⟨w.heap.size, 0, none⟩) (World.block_lt_of_cell? W _ h1)).trans h1))
      (Kd.C_below hr0 hW) hl0
  have hu := Tryd.underlying65
  have HR0 := Aside0.mk hr0
  clear hr0
  unfold impl_entAt.f at h
  obtain rfl := Option.some.inj h
  generalize impl_Ent.idx (impl_entAt.p a1) l0 = q at hC ⊢
  go_enter Tryd.func57, Tryd.ntmps57
  go_wp2_with (go_at_call 86; (refine (hC _ ?a1 ?a2).mono ?_; (case a1 => exact below_alloc (Below.refl _ _) _); (case a2 => exact impl_entAt.one w _ _); rintro e w' ⟨rfl, hb⟩; have hb2 := below_then (below_alloc (Below.refl w.heap.size w) _) (by simp) hb; have HB2 := Aside0.mk hb2))
  go_ret
  exact ⟨rfl, HB2.out⟩

end Go.Proofs.YtgchgcfjbjopkaaDoor.PZ
