-- Written by the session's program hprint.py, over the kit's print program. Lean checks it.
import Derived.Test.YtgchgcfjbjopkaaDoorPMx0
import Derived.Test.YtgchgcfjbjopkaaDoorPMx1
import Derived.Test.YtgchgcfjbjopkaaDoorPMx3
import Derived.Test.YtgchgcfjbjopkaaDoorPMx4
import Derived.Test.YtgchgcfjbjopkaaDoorPMx5
namespace Go.Proofs.YtgchgcfjbjopkaaDoor.PM
open Go.RowKit Go.Proofs.YtgchgcfjbjopkaaDoorW.PrintWords Go.Proofs.YtgchgcfjbjopkaaDoorW.PrintLast Go.Proofs.YtgchgcfjbjopkaaDoorW.PrintMore
attribute [local go_sem] max2_int min2_int max_two min_two max_three min_three max_four min_four   -- for this text's walks alone
set_option linter.unusedVariables false
set_option linter.unusedSimpArgs false

/-! ### laws_FnNames: function 9 -/
def laws_FnNames.j0 : Nat → ByteArray → ByteArray → ByteArray → Bool → ByteArray → ByteArray → ByteArray → ByteArray → ByteArray → Bool → Bool → Option (Bool)
  | 0, _, _, _, _, _, _, _, _, _, _, _ => none
  | k + 1, x3, x4, x5, x6, x7, x8, x9, x10, x11, x12, x96 => if x96 = true then (some false) else (if x9.toList = ([] : List UInt8) then (if x12 = true then (if x10.toList = x7.toList then (if x11.toList = x8.toList then ((impl_PlainOk.f k x3).bind fun t264 => (if x6 = true then (if (t264 == (x4.toList == ([] : List UInt8))) = true then (if x4.toList = ([] : List UInt8) then (some true) else ((impl_PlainOk.f k x4).bind fun t265 => (if t265 = true then ((impl_PlainOk.f k x5).bind fun t266 => (some t266)) else (some false)))) else (some false)) else (if (t264 == false) = true then (if x4.toList = ([] : List UInt8) then (some true) else ((impl_PlainOk.f k x4).bind fun t267 => (if t267 = true then ((impl_PlainOk.f k x5).bind fun t268 => (some t268)) else (some false)))) else (some false)))) else (some false)) else (some false)) else ((impl_PlainOk.f k x3).bind fun t269 => (if x6 = true then (if (t269 == (x4.toList == ([] : List UInt8))) = true then (if x4.toList = ([] : List UInt8) then (some true) else ((impl_PlainOk.f k x4).bind fun t270 => (if t270 = true then ((impl_PlainOk.f k x5).bind fun t271 => (some t271)) else (some false)))) else (some false)) else (if (t269 == false) = true then (if x4.toList = ([] : List UInt8) then (some true) else ((impl_PlainOk.f k x4).bind fun t272 => (if t272 = true then ((impl_PlainOk.f k x5).bind fun t273 => (some t273)) else (some false)))) else (some false))))) else (if x12 = true then (if x10.toList = x7.toList then (if x11.toList = x8.toList then ((impl_PlainOk.f k x3).bind fun t274 => (if x6 = true then (if (t274 == (x4.toList == ([] : List UInt8))) = true then (if x4.toList = ([] : List UInt8) then (some true) else ((impl_PlainOk.f k x4).bind fun t275 => (if t275 = true then ((impl_PlainOk.f k x5).bind fun t276 => (some t276)) else (some false)))) else (some false)) else (if (t274 == false) = true then (if x4.toList = ([] : List UInt8) then (some true) else ((impl_PlainOk.f k x4).bind fun t277 => (if t277 = true then ((impl_PlainOk.f k x5).bind fun t278 => (some t278)) else (some false)))) else (some false)))) else (some false)) else (some false)) else (some false)))
def laws_FnNames.f (k : Nat) (l0 : List Int) : Option (Bool) := (laws_big.f l0).bind fun t244 => (if t244 = true then (some true) else ((spec_DrawSplitName.f k l0).bind fun t245 => ((impl_SplitName.f k t245).bind fun bt246 => ((spec_DrawJoinName.f k l0).bind fun bt249 => ((impl_JoinName.f k bt249.1 bt249.2).bind fun t251 => ((impl_SplitName.f k t251).bind fun bt252 => ((spec_DrawNameAt.f k l0).bind fun bt255 => ((impl_NameAt.f k bt255.1 bt255.2).bind fun bt257 => ((spec_NameAt.f k bt255.1 bt255.2).bind fun bt259 => (if bt246.2.2 = true then ((impl_JoinName.f k bt246.1 bt246.2.1).bind fun t261 => (if t261.toList = t245.toList then (if bt257.1.toList = bt259.1.toList then (if bt257.2 = bt259.2 then ((spec_JoinName.f k bt249.1 bt249.2).bind fun t262 => (laws_FnNames.j0 k t245 bt246.1 bt246.2.1 bt246.2.2 bt249.1 bt249.2 t251 bt252.1 bt252.2.1 bt252.2.2 (t251.toList != t262.toList))) else (laws_FnNames.j0 k t245 bt246.1 bt246.2.1 bt246.2.2 bt249.1 bt249.2 t251 bt252.1 bt252.2.1 bt252.2.2 true)) else (laws_FnNames.j0 k t245 bt246.1 bt246.2.1 bt246.2.2 bt249.1 bt249.2 t251 bt252.1 bt252.2.1 bt252.2.2 true)) else (laws_FnNames.j0 k t245 bt246.1 bt246.2.1 bt246.2.2 bt249.1 bt249.2 t251 bt252.1 bt252.2.1 bt252.2.2 true))) else (if bt246.1.toList = ([] : List UInt8) then (if bt246.2.1.toList = ([] : List UInt8) then (if bt257.1.toList = bt259.1.toList then (if bt257.2 = bt259.2 then ((spec_JoinName.f k bt249.1 bt249.2).bind fun t263 => (laws_FnNames.j0 k t245 bt246.1 bt246.2.1 bt246.2.2 bt249.1 bt249.2 t251 bt252.1 bt252.2.1 bt252.2.2 (t251.toList != t263.toList))) else (laws_FnNames.j0 k t245 bt246.1 bt246.2.1 bt246.2.2 bt249.1 bt249.2 t251 bt252.1 bt252.2.1 bt252.2.2 true)) else (laws_FnNames.j0 k t245 bt246.1 bt246.2.1 bt246.2.2 bt249.1 bt249.2 t251 bt252.1 bt252.2.1 bt252.2.2 true)) else (laws_FnNames.j0 k t245 bt246.1 bt246.2.1 bt246.2.2 bt249.1 bt249.2 t251 bt252.1 bt252.2.1 bt252.2.2 true)) else (laws_FnNames.j0 k t245 bt246.1 bt246.2.1 bt246.2.2 bt249.1 bt249.2 t251 bt252.1 bt252.2.1 bt252.2.2 true))))))))))))
theorem laws_FnNames.mono_l : ∀ k, (∀ y0 y1 y2 y3 y4 y5 y6 y7 y8 y9 y10, LeO (laws_FnNames.j0 k y0 y1 y2 y3 y4 y5 y6 y7 y8 y9 y10) (laws_FnNames.j0 (k + 1) y0 y1 y2 y3 y4 y5 y6 y7 y8 y9 y10))
  | 0 => fun _ _ _ _ _ _ _ _ _ _ _ r h => by simp [laws_FnNames.j0] at h
  | k + 1 => by
    have ih0 := laws_FnNames.mono_l k
    · intro y0 y1 y2 y3 y4 y5 y6 y7 y8 y9 y10
      unfold laws_FnNames.j0
      repeat' first
      | (with_reducible exact ih0 _ _ _ _ _ _ _ _ _ _ _)
      | (with_reducible exact impl_JoinName.mono _ _ _)
      | (with_reducible exact impl_NameAt.mono _ _ _)
      | (with_reducible exact impl_PlainOk.mono _ _)
      | (with_reducible exact impl_SplitName.mono _ _)
      | (with_reducible exact spec_DrawJoinName.mono _ _)
      | (with_reducible exact spec_DrawNameAt.mono _ _)
      | (with_reducible exact spec_DrawSplitName.mono _ _)
      | (with_reducible exact spec_JoinName.mono _ _ _)
      | (with_reducible exact spec_NameAt.mono _ _ _)
      | (with_reducible exact LeO.refl _)
      | (with_reducible exact LeO.none _)
      | (with_reducible refine LeO.ite ?_ ?_)
      | (with_reducible refine LeO.bind ?_ (fun _ => ?_))
      | exact ih0 _ _ _ _ _ _ _ _ _ _ _
      | exact impl_JoinName.mono _ _ _
      | exact impl_NameAt.mono _ _ _
      | exact impl_PlainOk.mono _ _
      | exact impl_SplitName.mono _ _
      | exact spec_DrawJoinName.mono _ _
      | exact spec_DrawNameAt.mono _ _
      | exact spec_DrawSplitName.mono _ _
      | exact spec_JoinName.mono _ _ _
      | exact spec_NameAt.mono _ _ _
      | exact LeO.none _
      | refine LeO.ite ?_ ?_
      | refine LeO.bind ?_ (fun _ => ?_)
theorem laws_FnNames.mono : ∀ a0 k, LeO (laws_FnNames.f k a0) (laws_FnNames.f (k + 1) a0) := by
  intro a0 k
  have ih0 := laws_FnNames.mono_l k
  unfold laws_FnNames.f
  repeat' first
      | (with_reducible exact ih0 _ _ _ _ _ _ _ _ _ _ _)
      | (with_reducible exact impl_JoinName.mono _ _ _)
      | (with_reducible exact impl_NameAt.mono _ _ _)
      | (with_reducible exact impl_PlainOk.mono _ _)
      | (with_reducible exact impl_SplitName.mono _ _)
      | (with_reducible exact spec_DrawJoinName.mono _ _)
      | (with_reducible exact spec_DrawNameAt.mono _ _)
      | (with_reducible exact spec_DrawSplitName.mono _ _)
      | (with_reducible exact spec_JoinName.mono _ _ _)
      | (with_reducible exact spec_NameAt.mono _ _ _)
      | (with_reducible exact LeO.refl _)
      | (with_reducible exact LeO.none _)
      | (with_reducible refine LeO.ite ?_ ?_)
      | (with_reducible refine LeO.bind ?_ (fun _ => ?_))
      | exact ih0 _ _ _ _ _ _ _ _ _ _ _
      | exact impl_JoinName.mono _ _ _
      | exact impl_NameAt.mono _ _ _
      | exact impl_PlainOk.mono _ _
      | exact impl_SplitName.mono _ _
      | exact spec_DrawJoinName.mono _ _
      | exact spec_DrawNameAt.mono _ _
      | exact spec_DrawSplitName.mono _ _
      | exact spec_JoinName.mono _ _ _
      | exact spec_NameAt.mono _ _ _
      | exact LeO.none _
      | refine LeO.ite ?_ ?_
      | refine LeO.bind ?_ (fun _ => ?_)
set_option maxHeartbeats 8000000 in
set_option maxRecDepth 100000 in
theorem laws_FnNames.calls (k : Nat) (A0 : Option Addr) (c0 : Nat) (l0 : List Int) (r : Bool) (w : World) (hr0 : Kd.C (Kd.int .u8) w A0 l0.length l0) (hc0 : l0.length ≤ c0) (hTab : Tabs w) (h : laws_FnNames.f k l0 = some r) :
    Calls Tryd.prog 9 #[.slice A0 l0.length c0] w fun e w' => e = .returned (.bool r) ∧ Below w.heap.size w w' := by
  have HT := Aside0.mk hTab
  clear hTab
  have HR0 := Aside0.mk hr0
  have HC0 := Aside0.mk hc0
  clear hr0 hc0
  have HB := Aside0.mk (Below.refl w.heap.size w)
  have H : ((laws_big.f l0).bind fun t244 => (if t244 = true then (some true) else ((spec_DrawSplitName.f k l0).bind fun t245 => ((impl_SplitName.f k t245).bind fun bt246 => ((spec_DrawJoinName.f k l0).bind fun bt249 => ((impl_JoinName.f k bt249.1 bt249.2).bind fun t251 => ((impl_SplitName.f k t251).bind fun bt252 => ((spec_DrawNameAt.f k l0).bind fun bt255 => ((impl_NameAt.f k bt255.1 bt255.2).bind fun bt257 => ((spec_NameAt.f k bt255.1 bt255.2).bind fun bt259 => (if bt246.2.2 = true then ((impl_JoinName.f k bt246.1 bt246.2.1).bind fun t261 => (if t261.toList = t245.toList then (if bt257.1.toList = bt259.1.toList then (if bt257.2 = bt259.2 then ((spec_JoinName.f k bt249.1 bt249.2).bind fun t262 => (laws_FnNames.j0 k t245 bt246.1 bt246.2.1 bt246.2.2 bt249.1 bt249.2 t251 bt252.1 bt252.2.1 bt252.2.2 (t251.toList != t262.toList))) else (laws_FnNames.j0 k t245 bt246.1 bt246.2.1 bt246.2.2 bt249.1 bt249.2 t251 bt252.1 bt252.2.1 bt252.2.2 true)) else (laws_FnNames.j0 k t245 bt246.1 bt246.2.1 bt246.2.2 bt249.1 bt249.2 t251 bt252.1 bt252.2.1 bt252.2.2 true)) else (laws_FnNames.j0 k t245 bt246.1 bt246.2.1 bt246.2.2 bt249.1 bt249.2 t251 bt252.1 bt252.2.1 bt252.2.2 true))) else (if bt246.1.toList = ([] : List UInt8) then (if bt246.2.1.toList = ([] : List UInt8) then (if bt257.1.toList = bt259.1.toList then (if bt257.2 = bt259.2 then ((spec_JoinName.f k bt249.1 bt249.2).bind fun t263 => (laws_FnNames.j0 k t245 bt246.1 bt246.2.1 bt246.2.2 bt249.1 bt249.2 t251 bt252.1 bt252.2.1 bt252.2.2 (t251.toList != t263.toList))) else (laws_FnNames.j0 k t245 bt246.1 bt246.2.1 bt246.2.2 bt249.1 bt249.2 t251 bt252.1 bt252.2.1 bt252.2.2 true)) else (laws_FnNames.j0 k t245 bt246.1 bt246.2.1 bt246.2.2 bt249.1 bt249.2 t251 bt252.1 bt252.2.1 bt252.2.2 true)) else (laws_FnNames.j0 k t245 bt246.1 bt246.2.1 bt246.2.2 bt249.1 bt249.2 t251 bt252.1 bt252.2.1 bt252.2.2 true)) else (laws_FnNames.j0 k t245 bt246.1 bt246.2.1 bt246.2.2 bt249.1 bt249.2 t251 bt252.1 bt252.2.1 bt252.2.2 true))))))))))))) = some r := h
  clear h
  replace H := Option.bind_eq_some_iff.mp H
  obtain ⟨t244, A20, H⟩ := H
  replace H : (if t244 = true then (some true) else ((spec_DrawSplitName.f k l0).bind fun t245 => ((impl_SplitName.f k t245).bind fun bt246 => ((spec_DrawJoinName.f k l0).bind fun bt249 => ((impl_JoinName.f k bt249.1 bt249.2).bind fun t251 => ((impl_SplitName.f k t251).bind fun bt252 => ((spec_DrawNameAt.f k l0).bind fun bt255 => ((impl_NameAt.f k bt255.1 bt255.2).bind fun bt257 => ((spec_NameAt.f k bt255.1 bt255.2).bind fun bt259 => (if bt246.2.2 = true then ((impl_JoinName.f k bt246.1 bt246.2.1).bind fun t261 => (if t261.toList = t245.toList then (if bt257.1.toList = bt259.1.toList then (if bt257.2 = bt259.2 then ((spec_JoinName.f k bt249.1 bt249.2).bind fun t262 => (laws_FnNames.j0 k t245 bt246.1 bt246.2.1 bt246.2.2 bt249.1 bt249.2 t251 bt252.1 bt252.2.1 bt252.2.2 (t251.toList != t262.toList))) else (laws_FnNames.j0 k t245 bt246.1 bt246.2.1 bt246.2.2 bt249.1 bt249.2 t251 bt252.1 bt252.2.1 bt252.2.2 true)) else (laws_FnNames.j0 k t245 bt246.1 bt246.2.1 bt246.2.2 bt249.1 bt249.2 t251 bt252.1 bt252.2.1 bt252.2.2 true)) else (laws_FnNames.j0 k t245 bt246.1 bt246.2.1 bt246.2.2 bt249.1 bt249.2 t251 bt252.1 bt252.2.1 bt252.2.2 true))) else (if bt246.1.toList = ([] : List UInt8) then (if bt246.2.1.toList = ([] : List UInt8) then (if bt257.1.toList = bt259.1.toList then (if bt257.2 = bt259.2 then ((spec_JoinName.f k bt249.1 bt249.2).bind fun t263 => (laws_FnNames.j0 k t245 bt246.1 bt246.2.1 bt246.2.2 bt249.1 bt249.2 t251 bt252.1 bt252.2.1 bt252.2.2 (t251.toList != t263.toList))) else (laws_FnNames.j0 k t245 bt246.1 bt246.2.1 bt246.2.2 bt249.1 bt249.2 t251 bt252.1 bt252.2.1 bt252.2.2 true)) else (laws_FnNames.j0 k t245 bt246.1 bt246.2.1 bt246.2.2 bt249.1 bt249.2 t251 bt252.1 bt252.2.1 bt252.2.2 true)) else (laws_FnNames.j0 k t245 bt246.1 bt246.2.1 bt246.2.2 bt249.1 bt249.2 t251 bt252.1 bt252.2.1 bt252.2.2 true)) else (laws_FnNames.j0 k t245 bt246.1 bt246.2.1 bt246.2.2 bt249.1 bt249.2 t251 bt252.1 bt252.2.1 bt252.2.2 true)))))))))))) = some r := H
  have A2 := Aside0.mk A20
  clear A20
  by_cases c3 : t244 = true
  · subst c3
    have H1 : (some true) = some r := by rw [if_pos rfl] at H; exact H
    clear H
    have H := H1
    clear H1
    obtain rfl := Option.some.inj H
    go_enter Tryd.func9, Tryd.ntmps9
    go_wp2_with (first | ((with_reducible refine gate_callee (f := 22) rfl ?_); refine goesL_ (some 20) rfl rfl Tryd.func22 (by kernel_rfl) rfl #[.slice A0 l0.length c0] rfl (by (try simp only [List.map_toArray, List.map_cons, List.map_nil]); first | done | rfl | (simp only [List.length_drop, List.length_take]; rfl)) ?_; (with_reducible refine (laws_big.calls _ _ l0 true _ ?side1 ?side2 A2.out).mono ?_); (case side1 => repeat (first | exact HR0.out | (with_reducible refine Kd.C_alloc ?_ _) | (with_reducible refine Kd.C_drewN ?_ _) | (with_reducible refine Kd.C_drew ?_))); (case side2 => exact HC0.out); rintro e w' ⟨rfl, ⟨nd, rfl⟩⟩; refine ⟨_, rfl, ?_⟩))
    go_ret
    exact ⟨by first | rfl | (simp [errW_none, errW_some] <;> rfl) | (simp [*, errW_none, errW_some] <;> rfl), by repeat (first | (with_reducible first | exact HB.out | apply below_alloc | apply pw_below_drewN | apply below_drew1) | exact HB.out)⟩
  · replace c3 := Bool.eq_false_iff.mpr c3
    subst c3
    have H1 : ((spec_DrawSplitName.f k l0).bind fun t245 => ((impl_SplitName.f k t245).bind fun bt246 => ((spec_DrawJoinName.f k l0).bind fun bt249 => ((impl_JoinName.f k bt249.1 bt249.2).bind fun t251 => ((impl_SplitName.f k t251).bind fun bt252 => ((spec_DrawNameAt.f k l0).bind fun bt255 => ((impl_NameAt.f k bt255.1 bt255.2).bind fun bt257 => ((spec_NameAt.f k bt255.1 bt255.2).bind fun bt259 => (if bt246.2.2 = true then ((impl_JoinName.f k bt246.1 bt246.2.1).bind fun t261 => (if t261.toList = t245.toList then (if bt257.1.toList = bt259.1.toList then (if bt257.2 = bt259.2 then ((spec_JoinName.f k bt249.1 bt249.2).bind fun t262 => (laws_FnNames.j0 k t245 bt246.1 bt246.2.1 bt246.2.2 bt249.1 bt249.2 t251 bt252.1 bt252.2.1 bt252.2.2 (t251.toList != t262.toList))) else (laws_FnNames.j0 k t245 bt246.1 bt246.2.1 bt246.2.2 bt249.1 bt249.2 t251 bt252.1 bt252.2.1 bt252.2.2 true)) else (laws_FnNames.j0 k t245 bt246.1 bt246.2.1 bt246.2.2 bt249.1 bt249.2 t251 bt252.1 bt252.2.1 bt252.2.2 true)) else (laws_FnNames.j0 k t245 bt246.1 bt246.2.1 bt246.2.2 bt249.1 bt249.2 t251 bt252.1 bt252.2.1 bt252.2.2 true))) else (if bt246.1.toList = ([] : List UInt8) then (if bt246.2.1.toList = ([] : List UInt8) then (if bt257.1.toList = bt259.1.toList then (if bt257.2 = bt259.2 then ((spec_JoinName.f k bt249.1 bt249.2).bind fun t263 => (laws_FnNames.j0 k t245 bt246.1 bt246.2.1 bt246.2.2 bt249.1 bt249.2 t251 bt252.1 bt252.2.1 bt252.2.2 (t251.toList != t263.toList))) else (laws_FnNames.j0 k t245 bt246.1 bt246.2.1 bt246.2.2 bt249.1 bt249.2 t251 bt252.1 bt252.2.1 bt252.2.2 true)) else (laws_FnNames.j0 k t245 bt246.1 bt246.2.1 bt246.2.2 bt249.1 bt249.2 t251 bt252.1 bt252.2.1 bt252.2.2 true)) else (laws_FnNames.j0 k t245 bt246.1 bt246.2.1 bt246.2.2 bt249.1 bt249.2 t251 bt252.1 bt252.2.1 bt252.2.2 true)) else (laws_FnNames.j0 k t245 bt246.1 bt246.2.1 bt246.2.2 bt249.1 bt249.2 t251 bt252.1 bt252.2.1 bt252.2.2 true))))))))))) = some r := by rw [if_neg (show ¬ (false = true) by decide)] at H; exact H
    clear H
    have H := H1
    clear H1
    replace H := Option.bind_eq_some_iff.mp H
    obtain ⟨t245, A40, H⟩ := H
    replace H : ((impl_SplitName.f k t245).bind fun bt246 => ((spec_DrawJoinName.f k l0).bind fun bt249 => ((impl_JoinName.f k bt249.1 bt249.2).bind fun t251 => ((impl_SplitName.f k t251).bind fun bt252 => ((spec_DrawNameAt.f k l0).bind fun bt255 => ((impl_NameAt.f k bt255.1 bt255.2).bind fun bt257 => ((spec_NameAt.f k bt255.1 bt255.2).bind fun bt259 => (if bt246.2.2 = true then ((impl_JoinName.f k bt246.1 bt246.2.1).bind fun t261 => (if t261.toList = t245.toList then (if bt257.1.toList = bt259.1.toList then (if bt257.2 = bt259.2 then ((spec_JoinName.f k bt249.1 bt249.2).bind fun t262 => (laws_FnNames.j0 k t245 bt246.1 bt246.2.1 bt246.2.2 bt249.1 bt249.2 t251 bt252.1 bt252.2.1 bt252.2.2 (t251.toList != t262.toList))) else (laws_FnNames.j0 k t245 bt246.1 bt246.2.1 bt246.2.2 bt249.1 bt249.2 t251 bt252.1 bt252.2.1 bt252.2.2 true)) else (laws_FnNames.j0 k t245 bt246.1 bt246.2.1 bt246.2.2 bt249.1 bt249.2 t251 bt252.1 bt252.2.1 bt252.2.2 true)) else (laws_FnNames.j0 k t245 bt246.1 bt246.2.1 bt246.2.2 bt249.1 bt249.2 t251 bt252.1 bt252.2.1 bt252.2.2 true))) else (if bt246.1.toList = ([] : List UInt8) then (if bt246.2.1.toList = ([] : List UInt8) then (if bt257.1.toList = bt259.1.toList then (if bt257.2 = bt259.2 then ((spec_JoinName.f k bt249.1 bt249.2).bind fun t263 => (laws_FnNames.j0 k t245 bt246.1 bt246.2.1 bt246.2.2 bt249.1 bt249.2 t251 bt252.1 bt252.2.1 bt252.2.2 (t251.toList != t263.toList))) else (laws_FnNames.j0 k t245 bt246.1 bt246.2.1 bt246.2.2 bt249.1 bt249.2 t251 bt252.1 bt252.2.1 bt252.2.2 true)) else (laws_FnNames.j0 k t245 bt246.1 bt246.2.1 bt246.2.2 bt249.1 bt249.2 t251 bt252.1 bt252.2.1 bt252.2.2 true)) else (laws_FnNames.j0 k t245 bt246.1 bt246.2.1 bt246.2.2 bt249.1 bt249.2 t251 bt252.1 bt252.2.1 bt252.2.2 true)) else (laws_FnNames.j0 k t245 bt246.1 bt246.2.1 bt246.2.2 bt249.1 bt249.2 t251 bt252.1 bt252.2.1 bt252.2.2 true)))))))))) = some r := H
    have A4 := Aside0.mk A40
    clear A40
    replace H := Option.bind_eq_some_iff.mp H
    obtain ⟨⟨t246, t247, t248⟩, A50, H⟩ := H
    replace H : ((spec_DrawJoinName.f k l0).bind fun bt249 => ((impl_JoinName.f k bt249.1 bt249.2).bind fun t251 => ((impl_SplitName.f k t251).bind fun bt252 => ((spec_DrawNameAt.f k l0).bind fun bt255 => ((impl_NameAt.f k bt255.1 bt255.2).bind fun bt257 => ((spec_NameAt.f k bt255.1 bt255.2).bind fun bt259 => (if t248 = true then ((impl_JoinName.f k t246 t247).bind fun t261 => (if t261.toList = t245.toList then (if bt257.1.toList = bt259.1.toList then (if bt257.2 = bt259.2 then ((spec_JoinName.f k bt249.1 bt249.2).bind fun t262 => (laws_FnNames.j0 k t245 t246 t247 t248 bt249.1 bt249.2 t251 bt252.1 bt252.2.1 bt252.2.2 (t251.toList != t262.toList))) else (laws_FnNames.j0 k t245 t246 t247 t248 bt249.1 bt249.2 t251 bt252.1 bt252.2.1 bt252.2.2 true)) else (laws_FnNames.j0 k t245 t246 t247 t248 bt249.1 bt249.2 t251 bt252.1 bt252.2.1 bt252.2.2 true)) else (laws_FnNames.j0 k t245 t246 t247 t248 bt249.1 bt249.2 t251 bt252.1 bt252.2.1 bt252.2.2 true))) else (if t246.toList = ([] : List UInt8) then (if t247.toList = ([] : List UInt8) then (if bt257.1.toList = bt259.1.toList then (if bt257.2 = bt259.2 then ((spec_JoinName.f k bt249.1 bt249.2).bind fun t263 => (laws_FnNames.j0 k t245 t246 t247 t248 bt249.1 bt249.2 t251 bt252.1 bt252.2.1 bt252.2.2 (t251.toList != t263.toList))) else (laws_FnNames.j0 k t245 t246 t247 t248 bt249.1 bt249.2 t251 bt252.1 bt252.2.1 bt252.2.2 true)) else (laws_FnNames.j0 k t245 t246 t247 t248 bt249.1 bt249.2 t251 bt252.1 bt252.2.1 bt252.2.2 true)) else (laws_FnNames.j0 k t245 t246 t247 t248 bt249.1 bt249.2 t251 bt252.1 bt252.2.1 bt252.2.2 true)) else (laws_FnNames.j0 k t245 t246 t247 t248 bt249.1 bt249.2 t251 bt252.1 bt252.2.1 bt252.2.2 true))))))))) = some r := H
    have A5 := Aside0.mk A50
    clear A50
    replace H := Option.bind_eq_some_iff.mp H
    obtain ⟨⟨t249, t250⟩, A60, H⟩ := H
    replace H : ((impl_JoinName.f k t249 t250).bind fun t251 => ((impl_SplitName.f k t251).bind fun bt252 => ((spec_DrawNameAt.f k l0).bind fun bt255 => ((impl_NameAt.f k bt255.1 bt255.2).bind fun bt257 => ((spec_NameAt.f k bt255.1 bt255.2).bind fun bt259 => (if t248 = true then ((impl_JoinName.f k t246 t247).bind fun t261 => (if t261.toList = t245.toList then (if bt257.1.toList = bt259.1.toList then (if bt257.2 = bt259.2 then ((spec_JoinName.f k t249 t250).bind fun t262 => (laws_FnNames.j0 k t245 t246 t247 t248 t249 t250 t251 bt252.1 bt252.2.1 bt252.2.2 (t251.toList != t262.toList))) else (laws_FnNames.j0 k t245 t246 t247 t248 t249 t250 t251 bt252.1 bt252.2.1 bt252.2.2 true)) else (laws_FnNames.j0 k t245 t246 t247 t248 t249 t250 t251 bt252.1 bt252.2.1 bt252.2.2 true)) else (laws_FnNames.j0 k t245 t246 t247 t248 t249 t250 t251 bt252.1 bt252.2.1 bt252.2.2 true))) else (if t246.toList = ([] : List UInt8) then (if t247.toList = ([] : List UInt8) then (if bt257.1.toList = bt259.1.toList then (if bt257.2 = bt259.2 then ((spec_JoinName.f k t249 t250).bind fun t263 => (laws_FnNames.j0 k t245 t246 t247 t248 t249 t250 t251 bt252.1 bt252.2.1 bt252.2.2 (t251.toList != t263.toList))) else (laws_FnNames.j0 k t245 t246 t247 t248 t249 t250 t251 bt252.1 bt252.2.1 bt252.2.2 true)) else (laws_FnNames.j0 k t245 t246 t247 t248 t249 t250 t251 bt252.1 bt252.2.1 bt252.2.2 true)) else (laws_FnNames.j0 k t245 t246 t247 t248 t249 t250 t251 bt252.1 bt252.2.1 bt252.2.2 true)) else (laws_FnNames.j0 k t245 t246 t247 t248 t249 t250 t251 bt252.1 bt252.2.1 bt252.2.2 true)))))))) = some r := H
    have A6 := Aside0.mk A60
    clear A60
    replace H := Option.bind_eq_some_iff.mp H
    obtain ⟨t251, A70, H⟩ := H
    replace H : ((impl_SplitName.f k t251).bind fun bt252 => ((spec_DrawNameAt.f k l0).bind fun bt255 => ((impl_NameAt.f k bt255.1 bt255.2).bind fun bt257 => ((spec_NameAt.f k bt255.1 bt255.2).bind fun bt259 => (if t248 = true then ((impl_JoinName.f k t246 t247).bind fun t261 => (if t261.toList = t245.toList then (if bt257.1.toList = bt259.1.toList then (if bt257.2 = bt259.2 then ((spec_JoinName.f k t249 t250).bind fun t262 => (laws_FnNames.j0 k t245 t246 t247 t248 t249 t250 t251 bt252.1 bt252.2.1 bt252.2.2 (t251.toList != t262.toList))) else (laws_FnNames.j0 k t245 t246 t247 t248 t249 t250 t251 bt252.1 bt252.2.1 bt252.2.2 true)) else (laws_FnNames.j0 k t245 t246 t247 t248 t249 t250 t251 bt252.1 bt252.2.1 bt252.2.2 true)) else (laws_FnNames.j0 k t245 t246 t247 t248 t249 t250 t251 bt252.1 bt252.2.1 bt252.2.2 true))) else (if t246.toList = ([] : List UInt8) then (if t247.toList = ([] : List UInt8) then (if bt257.1.toList = bt259.1.toList then (if bt257.2 = bt259.2 then ((spec_JoinName.f k t249 t250).bind fun t263 => (laws_FnNames.j0 k t245 t246 t247 t248 t249 t250 t251 bt252.1 bt252.2.1 bt252.2.2 (t251.toList != t263.toList))) else (laws_FnNames.j0 k t245 t246 t247 t248 t249 t250 t251 bt252.1 bt252.2.1 bt252.2.2 true)) else (laws_FnNames.j0 k t245 t246 t247 t248 t249 t250 t251 bt252.1 bt252.2.1 bt252.2.2 true)) else (laws_FnNames.j0 k t245 t246 t247 t248 t249 t250 t251 bt252.1 bt252.2.1 bt252.2.2 true)) else (laws_FnNames.j0 k t245 t246 t247 t248 t249 t250 t251 bt252.1 bt252.2.1 bt252.2.2 true))))))) = some r := H
    have A7 := Aside0.mk A70
    clear A70
    replace H := Option.bind_eq_some_iff.mp H
    obtain ⟨⟨t252, t253, t254⟩, A80, H⟩ := H
    replace H : ((spec_DrawNameAt.f k l0).bind fun bt255 => ((impl_NameAt.f k bt255.1 bt255.2).bind fun bt257 => ((spec_NameAt.f k bt255.1 bt255.2).bind fun bt259 => (if t248 = true then ((impl_JoinName.f k t246 t247).bind fun t261 => (if t261.toList = t245.toList then (if bt257.1.toList = bt259.1.toList then (if bt257.2 = bt259.2 then ((spec_JoinName.f k t249 t250).bind fun t262 => (laws_FnNames.j0 k t245 t246 t247 t248 t249 t250 t251 t252 t253 t254 (t251.toList != t262.toList))) else (laws_FnNames.j0 k t245 t246 t247 t248 t249 t250 t251 t252 t253 t254 true)) else (laws_FnNames.j0 k t245 t246 t247 t248 t249 t250 t251 t252 t253 t254 true)) else (laws_FnNames.j0 k t245 t246 t247 t248 t249 t250 t251 t252 t253 t254 true))) else (if t246.toList = ([] : List UInt8) then (if t247.toList = ([] : List UInt8) then (if bt257.1.toList = bt259.1.toList then (if bt257.2 = bt259.2 then ((spec_JoinName.f k t249 t250).bind fun t263 => (laws_FnNames.j0 k t245 t246 t247 t248 t249 t250 t251 t252 t253 t254 (t251.toList != t263.toList))) else (laws_FnNames.j0 k t245 t246 t247 t248 t249 t250 t251 t252 t253 t254 true)) else (laws_FnNames.j0 k t245 t246 t247 t248 t249 t250 t251 t252 t253 t254 true)) else (laws_FnNames.j0 k t245 t246 t247 t248 t249 t250 t251 t252 t253 t254 true)) else (laws_FnNames.j0 k t245 t246 t247 t248 t249 t250 t251 t252 t253 t254 true)))))) = some r := H
    have A8 := Aside0.mk A80
    clear A80
    replace H := Option.bind_eq_some_iff.mp H
    obtain ⟨⟨t255, t256⟩, A90, H⟩ := H
    replace H : ((impl_NameAt.f k t255 t256).bind fun bt257 => ((spec_NameAt.f k t255 t256).bind fun bt259 => (if t248 = true then ((impl_JoinName.f k t246 t247).bind fun t261 => (if t261.toList = t245.toList then (if bt257.1.toList = bt259.1.toList then (if bt257.2 = bt259.2 then ((spec_JoinName.f k t249 t250).bind fun t262 => (laws_FnNames.j0 k t245 t246 t247 t248 t249 t250 t251 t252 t253 t254 (t251.toList != t262.toList))) else (laws_FnNames.j0 k t245 t246 t247 t248 t249 t250 t251 t252 t253 t254 true)) else (laws_FnNames.j0 k t245 t246 t247 t248 t249 t250 t251 t252 t253 t254 true)) else (laws_FnNames.j0 k t245 t246 t247 t248 t249 t250 t251 t252 t253 t254 true))) else (if t246.toList = ([] : List UInt8) then (if t247.toList = ([] : List UInt8) then (if bt257.1.toList = bt259.1.toList then (if bt257.2 = bt259.2 then ((spec_JoinName.f k t249 t250).bind fun t263 => (laws_FnNames.j0 k t245 t246 t247 t248 t249 t250 t251 t252 t253 t254 (t251.toList != t263.toList))) else (laws_FnNames.j0 k t245 t246 t247 t248 t249 t250 t251 t252 t253 t254 true)) else (laws_FnNames.j0 k t245 t246 t247 t248 t249 t250 t251 t252 t253 t254 true)) else (laws_FnNames.j0 k t245 t246 t247 t248 t249 t250 t251 t252 t253 t254 true)) else (laws_FnNames.j0 k t245 t246 t247 t248 t249 t250 t251 t252 t253 t254 true))))) = some r := H
    have A9 := Aside0.mk A90
    clear A90
    replace H := Option.bind_eq_some_iff.mp H
    obtain ⟨⟨t257, t258⟩, A100, H⟩ := H
    replace H : ((spec_NameAt.f k t255 t256).bind fun bt259 => (if t248 = true then ((impl_JoinName.f k t246 t247).bind fun t261 => (if t261.toList = t245.toList then (if t257.toList = bt259.1.toList then (if t258 = bt259.2 then ((spec_JoinName.f k t249 t250).bind fun t262 => (laws_FnNames.j0 k t245 t246 t247 t248 t249 t250 t251 t252 t253 t254 (t251.toList != t262.toList))) else (laws_FnNames.j0 k t245 t246 t247 t248 t249 t250 t251 t252 t253 t254 true)) else (laws_FnNames.j0 k t245 t246 t247 t248 t249 t250 t251 t252 t253 t254 true)) else (laws_FnNames.j0 k t245 t246 t247 t248 t249 t250 t251 t252 t253 t254 true))) else (if t246.toList = ([] : List UInt8) then (if t247.toList = ([] : List UInt8) then (if t257.toList = bt259.1.toList then (if t258 = bt259.2 then ((spec_JoinName.f k t249 t250).bind fun t263 => (laws_FnNames.j0 k t245 t246 t247 t248 t249 t250 t251 t252 t253 t254 (t251.toList != t263.toList))) else (laws_FnNames.j0 k t245 t246 t247 t248 t249 t250 t251 t252 t253 t254 true)) else (laws_FnNames.j0 k t245 t246 t247 t248 t249 t250 t251 t252 t253 t254 true)) else (laws_FnNames.j0 k t245 t246 t247 t248 t249 t250 t251 t252 t253 t254 true)) else (laws_FnNames.j0 k t245 t246 t247 t248 t249 t250 t251 t252 t253 t254 true)))) = some r := H
    have A10 := Aside0.mk A100
    clear A100
    replace H := Option.bind_eq_some_iff.mp H
    obtain ⟨⟨t259, t260⟩, A110, H⟩ := H
    replace H : (if t248 = true then ((impl_JoinName.f k t246 t247).bind fun t261 => (if t261.toList = t245.toList then (if t257.toList = t259.toList then (if t258 = t260 then ((spec_JoinName.f k t249 t250).bind fun t262 => (laws_FnNames.j0 k t245 t246 t247 t248 t249 t250 t251 t252 t253 t254 (t251.toList != t262.toList))) else (laws_FnNames.j0 k t245 t246 t247 t248 t249 t250 t251 t252 t253 t254 true)) else (laws_FnNames.j0 k t245 t246 t247 t248 t249 t250 t251 t252 t253 t254 true)) else (laws_FnNames.j0 k t245 t246 t247 t248 t249 t250 t251 t252 t253 t254 true))) else (if t246.toList = ([] : List UInt8) then (if t247.toList = ([] : List UInt8) then (if t257.toList = t259.toList then (if t258 = t260 then ((spec_JoinName.f k t249 t250).bind fun t263 => (laws_FnNames.j0 k t245 t246 t247 t248 t249 t250 t251 t252 t253 t254 (t251.toList != t263.toList))) else (laws_FnNames.j0 k t245 t246 t247 t248 t249 t250 t251 t252 t253 t254 true)) else (laws_FnNames.j0 k t245 t246 t247 t248 t249 t250 t251 t252 t253 t254 true)) else (laws_FnNames.j0 k t245 t246 t247 t248 t249 t250 t251 t252 t253 t254 true)) else (laws_FnNames.j0 k t245 t246 t247 t248 t249 t250 t251 t252 t253 t254 true))) = some r := H
    have A11 := Aside0.mk A110
    clear A110
    have HC12 := Aside0.mk H
    clear H
    go_enter Tryd.func9, Tryd.ntmps9
    go_upto_region 11 with (first | ((with_reducible refine gate_callee (f := 22) rfl ?_); refine goesL_ (some 20) rfl rfl Tryd.func22 (by kernel_rfl) rfl #[.slice A0 l0.length c0] rfl (by (try simp only [List.map_toArray, List.map_cons, List.map_nil]); first | done | rfl | (simp only [List.length_drop, List.length_take]; rfl)) ?_; (with_reducible refine (laws_big.calls _ _ l0 false _ ?side1 ?side2 A2.out).mono ?_); (case side1 => repeat (first | exact HR0.out | (with_reducible refine Kd.C_alloc ?_ _) | (with_reducible refine Kd.C_drewN ?_ _) | (with_reducible refine Kd.C_drew ?_))); (case side2 => exact HC0.out); rintro e w' ⟨rfl, ⟨nd, rfl⟩⟩; refine ⟨_, rfl, ?_⟩) | ((with_reducible refine gate_callee (f := 28) rfl ?_); refine goesL_ (some 22) rfl rfl Tryd.func28 (by kernel_rfl) rfl #[.slice A0 l0.length c0] rfl (by (try simp only [List.map_toArray, List.map_cons, List.map_nil]); first | done | rfl | (simp only [List.length_drop, List.length_take]; rfl)) ?_; (with_reducible refine (spec_DrawSplitName.calls k _ _ l0 t245 _ ?side1 ?side2 A4.out).mono ?_); (case side1 => repeat (first | exact HR0.out | (with_reducible refine Kd.C_alloc ?_ _) | (with_reducible refine Kd.C_drewN ?_ _) | (with_reducible refine Kd.C_drew ?_))); (case side2 => exact HC0.out); rintro e w13 ⟨rfl, hb⟩; refine ⟨_, rfl, ?_⟩; have n0_ := Aside0.mk (below_step (by repeat (first | (with_reducible first | exact HB.out | apply below_alloc | apply pw_below_drewN | apply below_drew1) | exact HB.out)) hb); clear HB; have HB := n0_; clear n0_; (try clear hb); (try clear hb2); (try clear hk); (try clear hi)) | ((with_reducible refine gate_callee (f := 12) rfl ?_); refine goesL_ (some 25) rfl rfl Tryd.func12 (by kernel_rfl) rfl #[.string t245] rfl (by (try simp only [List.map_toArray, List.map_cons, List.map_nil]); first | done | rfl | (simp only [List.length_drop, List.length_take]; rfl)) ?_; (with_reducible refine (impl_SplitName.calls k t245 t246 t247 t248 _ ?tabs A5.out).mono ?_); (case tabs => first | exact Tabs.below HT.out (by repeat (first | (with_reducible first | exact HB.out | apply below_alloc | apply pw_below_drewN | apply below_drew1) | exact HB.out)) | (repeat (first | exact HT.out | (with_reducible refine Tabs.drewN ?_ _) | (with_reducible refine Tabs.drew ?_) | (with_reducible refine Tabs.alloc ?_ _)))); rintro e w14 ⟨rfl, hb⟩; refine ⟨_, rfl, ?_⟩; have n0_ := Aside0.mk (below_step (by repeat (first | (with_reducible first | exact HB.out | apply below_alloc | apply pw_below_drewN | apply below_drew1) | exact HB.out)) hb); clear HB; have HB := n0_; clear n0_; (try clear hb); (try clear hb2); (try clear hk); (try clear hi)) | ((with_reducible refine gate_callee (f := 29) rfl ?_); refine goesL_ (some 31) rfl rfl Tryd.func29 (by kernel_rfl) rfl #[.slice A0 l0.length c0] rfl (by (try simp only [List.map_toArray, List.map_cons, List.map_nil]); first | done | rfl | (simp only [List.length_drop, List.length_take]; rfl)) ?_; (with_reducible refine (spec_DrawJoinName.calls k _ _ l0 t249 t250 _ ?side1 ?side2 A6.out).mono ?_); (case side1 => repeat (first | exact (Kd.C_below HR0.out HB.out) | (with_reducible refine Kd.C_alloc ?_ _) | (with_reducible refine Kd.C_drewN ?_ _) | (with_reducible refine Kd.C_drew ?_))); (case side2 => exact HC0.out); rintro e w15 ⟨rfl, hb⟩; refine ⟨_, rfl, ?_⟩; have n0_ := Aside0.mk (below_step (by repeat (first | (with_reducible first | exact HB.out | apply below_alloc | apply pw_below_drewN | apply below_drew1) | exact HB.out)) hb); clear HB; have HB := n0_; clear n0_; (try clear hb); (try clear hb2); (try clear hk); (try clear hi)) | ((with_reducible refine gate_callee (f := 27) rfl ?_); refine goesL_ (some 36) rfl rfl Tryd.func27 (by kernel_rfl) rfl #[.string t249, .string t250] rfl (by (try simp only [List.map_toArray, List.map_cons, List.map_nil]); first | done | rfl | (simp only [List.length_drop, List.length_take]; rfl)) ?_; (with_reducible refine (impl_JoinName.calls k t249 t250 t251 _ ?tabs A7.out).mono ?_); (case tabs => first | exact Tabs.below HT.out (by repeat (first | (with_reducible first | exact HB.out | apply below_alloc | apply pw_below_drewN | apply below_drew1) | exact HB.out)) | (repeat (first | exact HT.out | (with_reducible refine Tabs.drewN ?_ _) | (with_reducible refine Tabs.drew ?_) | (with_reducible refine Tabs.alloc ?_ _)))); rintro e w16 ⟨rfl, hb⟩; refine ⟨_, rfl, ?_⟩; have n0_ := Aside0.mk (below_step (by repeat (first | (with_reducible first | exact HB.out | apply below_alloc | apply pw_below_drewN | apply below_drew1) | exact HB.out)) hb); clear HB; have HB := n0_; clear n0_; (try clear hb); (try clear hb2); (try clear hk); (try clear hi)) | ((with_reducible refine gate_callee (f := 12) rfl ?_); refine goesL_ (some 39) rfl rfl Tryd.func12 (by kernel_rfl) rfl #[.string t251] rfl (by (try simp only [List.map_toArray, List.map_cons, List.map_nil]); first | done | rfl | (simp only [List.length_drop, List.length_take]; rfl)) ?_; (with_reducible refine (impl_SplitName.calls k t251 t252 t253 t254 _ ?tabs A8.out).mono ?_); (case tabs => first | exact Tabs.below HT.out (by repeat (first | (with_reducible first | exact HB.out | apply below_alloc | apply pw_below_drewN | apply below_drew1) | exact HB.out)) | (repeat (first | exact HT.out | (with_reducible refine Tabs.drewN ?_ _) | (with_reducible refine Tabs.drew ?_) | (with_reducible refine Tabs.alloc ?_ _)))); rintro e w17 ⟨rfl, hb⟩; refine ⟨_, rfl, ?_⟩; have n0_ := Aside0.mk (below_step (by repeat (first | (with_reducible first | exact HB.out | apply below_alloc | apply pw_below_drewN | apply below_drew1) | exact HB.out)) hb); clear HB; have HB := n0_; clear n0_; (try clear hb); (try clear hb2); (try clear hk); (try clear hi)) | ((with_reducible refine gate_callee (f := 30) rfl ?_); refine goesL_ (some 45) rfl rfl Tryd.func30 (by kernel_rfl) rfl #[.slice A0 l0.length c0] rfl (by (try simp only [List.map_toArray, List.map_cons, List.map_nil]); first | done | rfl | (simp only [List.length_drop, List.length_take]; rfl)) ?_; (with_reducible refine (spec_DrawNameAt.calls k _ _ l0 t255 t256 _ ?side1 ?side2 A9.out).mono ?_); (case side1 => repeat (first | exact (Kd.C_below HR0.out HB.out) | (with_reducible refine Kd.C_alloc ?_ _) | (with_reducible refine Kd.C_drewN ?_ _) | (with_reducible refine Kd.C_drew ?_))); (case side2 => exact HC0.out); rintro e w18 ⟨rfl, hb⟩; refine ⟨_, rfl, ?_⟩; have n0_ := Aside0.mk (below_step (by repeat (first | (with_reducible first | exact HB.out | apply below_alloc | apply pw_below_drewN | apply below_drew1) | exact HB.out)) hb); clear HB; have HB := n0_; clear n0_; (try clear hb); (try clear hb2); (try clear hk); (try clear hi)) | ((with_reducible refine gate_callee (f := 31) rfl ?_); refine goesL_ (some 51) rfl rfl Tryd.func31 (by kernel_rfl) rfl #[.string t255, .int .i64 t256] rfl (by (try simp only [List.map_toArray, List.map_cons, List.map_nil]); first | done | rfl | (simp only [List.length_drop, List.length_take]; rfl)) ?_; (with_reducible refine (impl_NameAt.calls k t255 t256 t257 t258 _ ?tabs A10.out).mono ?_); (case tabs => first | exact Tabs.below HT.out (by repeat (first | (with_reducible first | exact HB.out | apply below_alloc | apply pw_below_drewN | apply below_drew1) | exact HB.out)) | (repeat (first | exact HT.out | (with_reducible refine Tabs.drewN ?_ _) | (with_reducible refine Tabs.drew ?_) | (with_reducible refine Tabs.alloc ?_ _)))); rintro e w19 ⟨rfl, hb⟩; refine ⟨_, rfl, ?_⟩; have n0_ := Aside0.mk (below_step (by repeat (first | (with_reducible first | exact HB.out | apply below_alloc | apply pw_below_drewN | apply below_drew1) | exact HB.out)) hb); clear HB; have HB := n0_; clear n0_; (try clear hb); (try clear hb2); (try clear hk); (try clear hi)) | ((with_reducible refine gate_callee (f := 32) rfl ?_); refine goesL_ (some 57) rfl rfl Tryd.func32 (by kernel_rfl) rfl #[.string t255, .int .i64 t256] rfl (by (try simp only [List.map_toArray, List.map_cons, List.map_nil]); first | done | rfl | (simp only [List.length_drop, List.length_take]; rfl)) ?_; (with_reducible refine (spec_NameAt.calls k t255 t256 t259 t260 _ A11.out).mono ?_); rintro e w20 ⟨rfl, hb⟩; refine ⟨_, rfl, ?_⟩; have n0_ := Aside0.mk (below_step (by repeat (first | (with_reducible first | exact HB.out | apply below_alloc | apply pw_below_drewN | apply below_drew1) | exact HB.out)) hb); clear HB; have HB := n0_; clear n0_; (try clear hb); (try clear hb2); (try clear hk); (try clear hi)))
    (try simp only [Act.put, List.setIfInBounds_toArray, List.set_cons_zero, List.set_cons_succ])
    go_cut [96] (fun v96 wc => ∃ (kq : Nat) (x96_11 : Bool), v96 = .bool x96_11 ∧ Aside0 (laws_FnNames.j0 kq t245 t246 t247 t248 t249 t250 t251 t252 t253 t254 x96_11 = some r) ∧ Aside0 (kq ≤ k) ∧ Aside0 (Below w.heap.size w wc))
    case first =>
      have H := HC12.out
      clear HC12
      by_cases c21 : t248 = true
      · subst c21
        have H1 : ((impl_JoinName.f k t246 t247).bind fun t261 => (if t261.toList = t245.toList then (if t257.toList = t259.toList then (if t258 = t260 then ((spec_JoinName.f k t249 t250).bind fun t262 => (laws_FnNames.j0 k t245 t246 t247 true t249 t250 t251 t252 t253 t254 (t251.toList != t262.toList))) else (laws_FnNames.j0 k t245 t246 t247 true t249 t250 t251 t252 t253 t254 true)) else (laws_FnNames.j0 k t245 t246 t247 true t249 t250 t251 t252 t253 t254 true)) else (laws_FnNames.j0 k t245 t246 t247 true t249 t250 t251 t252 t253 t254 true))) = some r := by rw [if_pos rfl] at H; exact H
        clear H
        have H := H1
        clear H1
        replace H := Option.bind_eq_some_iff.mp H
        obtain ⟨t261, A220, H⟩ := H
        replace H : (if t261.toList = t245.toList then (if t257.toList = t259.toList then (if t258 = t260 then ((spec_JoinName.f k t249 t250).bind fun t262 => (laws_FnNames.j0 k t245 t246 t247 true t249 t250 t251 t252 t253 t254 (t251.toList != t262.toList))) else (laws_FnNames.j0 k t245 t246 t247 true t249 t250 t251 t252 t253 t254 true)) else (laws_FnNames.j0 k t245 t246 t247 true t249 t250 t251 t252 t253 t254 true)) else (laws_FnNames.j0 k t245 t246 t247 true t249 t250 t251 t252 t253 t254 true)) = some r := H
        have A22 := Aside0.mk A220
        clear A220
        by_cases c23 : t261.toList = t245.toList
        · rw [if_pos c23] at H
          have c23b0 : (t261.toList == t245.toList) = true := beq_iff_eq.mpr c23
          have c23b1 : (t261.toList != t245.toList) = false := bne_eq_false_iff_eq.mpr c23
          clear c23
          (first | rw [c23b0] | (simp only [i64_w, i32_w]; rw [c23b0]) | skip)
          by_cases c24 : t257.toList = t259.toList
          · rw [if_pos c24] at H
            have c24b0 : (t257.toList == t259.toList) = true := beq_iff_eq.mpr c24
            have c24b1 : (t257.toList != t259.toList) = false := bne_eq_false_iff_eq.mpr c24
            clear c24
            by_cases c25 : t258 = t260
            · rw [if_pos c25] at H
              have c25b0 : (t258 == t260) = true := beq_iff_eq.mpr c25
              have c25b1 : (t258 != t260) = false := bne_eq_false_iff_eq.mpr c25
              clear c25
              replace H := Option.bind_eq_some_iff.mp H
              obtain ⟨t262, A260, H⟩ := H
              replace H : (laws_FnNames.j0 k t245 t246 t247 true t249 t250 t251 t252 t253 t254 (t251.toList != t262.toList)) = some r := H
              have A26 := Aside0.mk A260
              clear A260
              have H' := Aside0.mk H
              clear H
              go_wp2_with (first | (go_at_call 27; (with_reducible refine (impl_JoinName.calls k t246 t247 t261 _ ?tabs A22.out).mono ?_); (case tabs => first | exact Tabs.below HT.out (by repeat (first | (with_reducible first | exact HB.out | apply below_alloc | apply pw_below_drewN | apply below_drew1) | exact HB.out)) | (repeat (first | exact HT.out | (with_reducible refine Tabs.drewN ?_ _) | (with_reducible refine Tabs.drew ?_) | (with_reducible refine Tabs.alloc ?_ _)))); rintro e w27 ⟨rfl, hb⟩; have n0_ := Aside0.mk (below_step (by repeat (first | (with_reducible first | exact HB.out | apply below_alloc | apply pw_below_drewN | apply below_drew1) | exact HB.out)) hb); clear HB; have HB := n0_; clear n0_; (try clear hb); (try clear hb2); (try clear hk); (try clear hi)) | (go_at_call 26; (with_reducible refine (spec_JoinName.calls k t249 t250 t262 _ A26.out).mono ?_); rintro e w28 ⟨rfl, hb⟩; have n0_ := Aside0.mk (below_step (by repeat (first | (with_reducible first | exact HB.out | apply below_alloc | apply pw_below_drewN | apply below_drew1) | exact HB.out)) hb); clear HB; have HB := n0_; clear n0_; (try clear hb); (try clear hb2); (try clear hk); (try clear hi)))
              go_meet
              case rel => exact ⟨_, ((t251.toList != t262.toList)), (by first | rfl | (simp; done) | (simp [*]; done)), H', ⟨by first | omega | exact Nat.le_refl _⟩, ⟨by repeat (first | (with_reducible first | exact HB.out | apply below_alloc | apply pw_below_drewN | apply below_drew1) | exact HB.out)⟩⟩
            · rw [if_neg c25] at H
              have c25b0 : (t258 == t260) = false := beq_eq_false_iff_ne.mpr c25
              have c25b1 : (t258 != t260) = true := bne_iff_ne.mpr c25
              have H' := Aside0.mk H
              clear H
              go_wp2_with (first | (go_at_call 27; (with_reducible refine (impl_JoinName.calls k t246 t247 t261 _ ?tabs A22.out).mono ?_); (case tabs => first | exact Tabs.below HT.out (by repeat (first | (with_reducible first | exact HB.out | apply below_alloc | apply pw_below_drewN | apply below_drew1) | exact HB.out)) | (repeat (first | exact HT.out | (with_reducible refine Tabs.drewN ?_ _) | (with_reducible refine Tabs.drew ?_) | (with_reducible refine Tabs.alloc ?_ _)))); rintro e w29 ⟨rfl, hb⟩; have n0_ := Aside0.mk (below_step (by repeat (first | (with_reducible first | exact HB.out | apply below_alloc | apply pw_below_drewN | apply below_drew1) | exact HB.out)) hb); clear HB; have HB := n0_; clear n0_; (try clear hb); (try clear hb2); (try clear hk); (try clear hi)))
              go_meet
              case rel => exact ⟨_, (true), (by first | rfl | (simp; done) | (simp [*]; done)), H', ⟨by first | omega | exact Nat.le_refl _⟩, ⟨by repeat (first | (with_reducible first | exact HB.out | apply below_alloc | apply pw_below_drewN | apply below_drew1) | exact HB.out)⟩⟩
          · rw [if_neg c24] at H
            have c24b0 : (t257.toList == t259.toList) = false := beq_eq_false_iff_ne.mpr c24
            have c24b1 : (t257.toList != t259.toList) = true := bne_iff_ne.mpr c24
            have H' := Aside0.mk H
            clear H
            go_wp2_with (first | (go_at_call 27; (with_reducible refine (impl_JoinName.calls k t246 t247 t261 _ ?tabs A22.out).mono ?_); (case tabs => first | exact Tabs.below HT.out (by repeat (first | (with_reducible first | exact HB.out | apply below_alloc | apply pw_below_drewN | apply below_drew1) | exact HB.out)) | (repeat (first | exact HT.out | (with_reducible refine Tabs.drewN ?_ _) | (with_reducible refine Tabs.drew ?_) | (with_reducible refine Tabs.alloc ?_ _)))); rintro e w30 ⟨rfl, hb⟩; have n0_ := Aside0.mk (below_step (by repeat (first | (with_reducible first | exact HB.out | apply below_alloc | apply pw_below_drewN | apply below_drew1) | exact HB.out)) hb); clear HB; have HB := n0_; clear n0_; (try clear hb); (try clear hb2); (try clear hk); (try clear hi)))
            go_meet
            case rel => exact ⟨_, (true), (by first | rfl | (simp; done) | (simp [*]; done)), H', ⟨by first | omega | exact Nat.le_refl _⟩, ⟨by repeat (first | (with_reducible first | exact HB.out | apply below_alloc | apply pw_below_drewN | apply below_drew1) | exact HB.out)⟩⟩
        · rw [if_neg c23] at H
          have c23b0 : (t261.toList == t245.toList) = false := beq_eq_false_iff_ne.mpr c23
          have c23b1 : (t261.toList != t245.toList) = true := bne_iff_ne.mpr c23
          (first | rw [c23b0] | (simp only [i64_w, i32_w]; rw [c23b0]) | skip)
          have H' := Aside0.mk H
          clear H
          go_wp2_with (first | (go_at_call 27; (with_reducible refine (impl_JoinName.calls k t246 t247 t261 _ ?tabs A22.out).mono ?_); (case tabs => first | exact Tabs.below HT.out (by repeat (first | (with_reducible first | exact HB.out | apply below_alloc | apply pw_below_drewN | apply below_drew1) | exact HB.out)) | (repeat (first | exact HT.out | (with_reducible refine Tabs.drewN ?_ _) | (with_reducible refine Tabs.drew ?_) | (with_reducible refine Tabs.alloc ?_ _)))); rintro e w31 ⟨rfl, hb⟩; have n0_ := Aside0.mk (below_step (by repeat (first | (with_reducible first | exact HB.out | apply below_alloc | apply pw_below_drewN | apply below_drew1) | exact HB.out)) hb); clear HB; have HB := n0_; clear n0_; (try clear hb); (try clear hb2); (try clear hk); (try clear hi)))
          go_meet
          case rel => exact ⟨_, (true), (by first | rfl | (simp; done) | (simp [*]; done)), H', ⟨by first | omega | exact Nat.le_refl _⟩, ⟨by repeat (first | (with_reducible first | exact HB.out | apply below_alloc | apply pw_below_drewN | apply below_drew1) | exact HB.out)⟩⟩
      · replace c21 := Bool.eq_false_iff.mpr c21
        subst c21
        have H1 : (if t246.toList = ([] : List UInt8) then (if t247.toList = ([] : List UInt8) then (if t257.toList = t259.toList then (if t258 = t260 then ((spec_JoinName.f k t249 t250).bind fun t263 => (laws_FnNames.j0 k t245 t246 t247 false t249 t250 t251 t252 t253 t254 (t251.toList != t263.toList))) else (laws_FnNames.j0 k t245 t246 t247 false t249 t250 t251 t252 t253 t254 true)) else (laws_FnNames.j0 k t245 t246 t247 false t249 t250 t251 t252 t253 t254 true)) else (laws_FnNames.j0 k t245 t246 t247 false t249 t250 t251 t252 t253 t254 true)) else (laws_FnNames.j0 k t245 t246 t247 false t249 t250 t251 t252 t253 t254 true)) = some r := by rw [if_neg (show ¬ (false = true) by decide)] at H; exact H
        clear H
        have H := H1
        clear H1
        by_cases c32 : t246.toList = ([] : List UInt8)
        · rw [if_pos c32] at H
          have c32b0 : (t246.toList == ([] : List UInt8)) = true := beq_iff_eq.mpr c32
          have c32b1 : (t246.toList != ([] : List UInt8)) = false := bne_eq_false_iff_eq.mpr c32
          clear c32
          by_cases c33 : t247.toList = ([] : List UInt8)
          · rw [if_pos c33] at H
            have c33b0 : (t247.toList == ([] : List UInt8)) = true := beq_iff_eq.mpr c33
            have c33b1 : (t247.toList != ([] : List UInt8)) = false := bne_eq_false_iff_eq.mpr c33
            clear c33
            by_cases c34 : t257.toList = t259.toList
            · rw [if_pos c34] at H
              have c34b0 : (t257.toList == t259.toList) = true := beq_iff_eq.mpr c34
              have c34b1 : (t257.toList != t259.toList) = false := bne_eq_false_iff_eq.mpr c34
              clear c34
              by_cases c35 : t258 = t260
              · rw [if_pos c35] at H
                have c35b0 : (t258 == t260) = true := beq_iff_eq.mpr c35
                have c35b1 : (t258 != t260) = false := bne_eq_false_iff_eq.mpr c35
                clear c35
                replace H := Option.bind_eq_some_iff.mp H
                obtain ⟨t263, A360, H⟩ := H
                replace H : (laws_FnNames.j0 k t245 t246 t247 false t249 t250 t251 t252 t253 t254 (t251.toList != t263.toList)) = some r := H
                have A36 := Aside0.mk A360
                clear A360
                have H' := Aside0.mk H
                clear H
                go_wp2_with (first | (go_at_call 26; (with_reducible refine (spec_JoinName.calls k t249 t250 t263 _ A36.out).mono ?_); rintro e w37 ⟨rfl, hb⟩; have n0_ := Aside0.mk (below_step (by repeat (first | (with_reducible first | exact HB.out | apply below_alloc | apply pw_below_drewN | apply below_drew1) | exact HB.out)) hb); clear HB; have HB := n0_; clear n0_; (try clear hb); (try clear hb2); (try clear hk); (try clear hi)))
                go_meet
                case rel => exact ⟨_, ((t251.toList != t263.toList)), (by first | rfl | (simp; done) | (simp [*]; done)), H', ⟨by first | omega | exact Nat.le_refl _⟩, ⟨by repeat (first | (with_reducible first | exact HB.out | apply below_alloc | apply pw_below_drewN | apply below_drew1) | exact HB.out)⟩⟩
              · rw [if_neg c35] at H
                have c35b0 : (t258 == t260) = false := beq_eq_false_iff_ne.mpr c35
                have c35b1 : (t258 != t260) = true := bne_iff_ne.mpr c35
                have H' := Aside0.mk H
                clear H
                go_wp2
                go_meet
                case rel => exact ⟨_, (true), (by first | rfl | (simp; done) | (simp [*]; done)), H', ⟨by first | omega | exact Nat.le_refl _⟩, ⟨by repeat (first | (with_reducible first | exact HB.out | apply below_alloc | apply pw_below_drewN | apply below_drew1) | exact HB.out)⟩⟩
            · rw [if_neg c34] at H
              have c34b0 : (t257.toList == t259.toList) = false := beq_eq_false_iff_ne.mpr c34
              have c34b1 : (t257.toList != t259.toList) = true := bne_iff_ne.mpr c34
              have H' := Aside0.mk H
              clear H
              go_wp2
              go_meet
              case rel => exact ⟨_, (true), (by first | rfl | (simp; done) | (simp [*]; done)), H', ⟨by first | omega | exact Nat.le_refl _⟩, ⟨by repeat (first | (with_reducible first | exact HB.out | apply below_alloc | apply pw_below_drewN | apply below_drew1) | exact HB.out)⟩⟩
          · rw [if_neg c33] at H
            have c33b0 : (t247.toList == ([] : List UInt8)) = false := beq_eq_false_iff_ne.mpr c33
            have c33b1 : (t247.toList != ([] : List UInt8)) = true := bne_iff_ne.mpr c33
            have H' := Aside0.mk H
            clear H
            go_wp2
            go_meet
            case rel => exact ⟨_, (true), (by first | rfl | (simp; done) | (simp [*]; done)), H', ⟨by first | omega | exact Nat.le_refl _⟩, ⟨by repeat (first | (with_reducible first | exact HB.out | apply below_alloc | apply pw_below_drewN | apply below_drew1) | exact HB.out)⟩⟩
        · rw [if_neg c32] at H
          have c32b0 : (t246.toList == ([] : List UInt8)) = false := beq_eq_false_iff_ne.mpr c32
          have c32b1 : (t246.toList != ([] : List UInt8)) = true := bne_iff_ne.mpr c32
          have H' := Aside0.mk H
          clear H
          go_wp2
          go_meet
          case rel => exact ⟨_, (true), (by first | rfl | (simp; done) | (simp [*]; done)), H', ⟨by first | omega | exact Nat.le_refl _⟩, ⟨by repeat (first | (with_reducible first | exact HB.out | apply below_alloc | apply pw_below_drewN | apply below_drew1) | exact HB.out)⟩⟩
    case rest =>
      clear HC12
      try clear c1
      try clear c2
      try clear p2
      try clear c3
      try clear c9
      try clear c12
      try clear c21
      try clear c22
      try clear c23
      try clear c23b0
      try clear c23b1
      try clear c24
      try clear c24b0
      try clear c24b1
      try clear c25
      try clear c25b0
      try clear c25b1
      try clear c27
      try clear c28
      try clear c29
      try clear c30
      try clear c31
      try clear c32
      try clear c32b0
      try clear c32b1
      try clear c33
      try clear c33b0
      try clear c33b1
      try clear c34
      try clear c34b0
      try clear c34b1
      try clear c35
      try clear c35b0
      try clear c35b1
      obtain ⟨kq, x96_11, rfl, HA, HJ11, HB⟩ := hcut
      cases kq with
      | zero => exact absurd HA.out (by simp [laws_FnNames.j0])
      | succ kj11 =>
        have H := HA.out
        clear HA
        simp only [laws_FnNames.j0] at H
        by_cases c38 : x96_11 = true
        · subst c38
          have H1 : (some false) = some r := by rw [if_pos rfl] at H; exact H
          clear H
          have H := H1
          clear H1
          obtain rfl := Option.some.inj H
          go_wp2
          go_ret
          exact ⟨by first | rfl | (simp [errW_none, errW_some] <;> rfl) | (simp [*, errW_none, errW_some] <;> rfl), by repeat (first | (with_reducible first | exact HB.out | apply below_alloc | apply pw_below_drewN | apply below_drew1) | exact HB.out)⟩
        · replace c38 := Bool.eq_false_iff.mpr c38
          subst c38
          have H1 : (if t251.toList = ([] : List UInt8) then (if t254 = true then (if t252.toList = t249.toList then (if t253.toList = t250.toList then ((impl_PlainOk.f kj11 t245).bind fun t264 => (if t248 = true then (if (t264 == (t246.toList == ([] : List UInt8))) = true then (if t246.toList = ([] : List UInt8) then (some true) else ((impl_PlainOk.f kj11 t246).bind fun t265 => (if t265 = true then ((impl_PlainOk.f kj11 t247).bind fun t266 => (some t266)) else (some false)))) else (some false)) else (if (t264 == false) = true then (if t246.toList = ([] : List UInt8) then (some true) else ((impl_PlainOk.f kj11 t246).bind fun t267 => (if t267 = true then ((impl_PlainOk.f kj11 t247).bind fun t268 => (some t268)) else (some false)))) else (some false)))) else (some false)) else (some false)) else ((impl_PlainOk.f kj11 t245).bind fun t269 => (if t248 = true then (if (t269 == (t246.toList == ([] : List UInt8))) = true then (if t246.toList = ([] : List UInt8) then (some true) else ((impl_PlainOk.f kj11 t246).bind fun t270 => (if t270 = true then ((impl_PlainOk.f kj11 t247).bind fun t271 => (some t271)) else (some false)))) else (some false)) else (if (t269 == false) = true then (if t246.toList = ([] : List UInt8) then (some true) else ((impl_PlainOk.f kj11 t246).bind fun t272 => (if t272 = true then ((impl_PlainOk.f kj11 t247).bind fun t273 => (some t273)) else (some false)))) else (some false))))) else (if t254 = true then (if t252.toList = t249.toList then (if t253.toList = t250.toList then ((impl_PlainOk.f kj11 t245).bind fun t274 => (if t248 = true then (if (t274 == (t246.toList == ([] : List UInt8))) = true then (if t246.toList = ([] : List UInt8) then (some true) else ((impl_PlainOk.f kj11 t246).bind fun t275 => (if t275 = true then ((impl_PlainOk.f kj11 t247).bind fun t276 => (some t276)) else (some false)))) else (some false)) else (if (t274 == false) = true then (if t246.toList = ([] : List UInt8) then (some true) else ((impl_PlainOk.f kj11 t246).bind fun t277 => (if t277 = true then ((impl_PlainOk.f kj11 t247).bind fun t278 => (some t278)) else (some false)))) else (some false)))) else (some false)) else (some false)) else (some false))) = some r := by rw [if_neg (show ¬ (false = true) by decide)] at H; exact H
          clear H
          have H := H1
          clear H1
          by_cases c39 : t251.toList = ([] : List UInt8)
          · rw [if_pos c39] at H
            have c39b0 : (t251.toList == ([] : List UInt8)) = true := beq_iff_eq.mpr c39
            have c39b1 : (t251.toList != ([] : List UInt8)) = false := bne_eq_false_iff_eq.mpr c39
            clear c39
            by_cases c40 : t254 = true
            · subst c40
              have H1 : (if t252.toList = t249.toList then (if t253.toList = t250.toList then ((impl_PlainOk.f kj11 t245).bind fun t264 => (if t248 = true then (if (t264 == (t246.toList == ([] : List UInt8))) = true then (if t246.toList = ([] : List UInt8) then (some true) else ((impl_PlainOk.f kj11 t246).bind fun t265 => (if t265 = true then ((impl_PlainOk.f kj11 t247).bind fun t266 => (some t266)) else (some false)))) else (some false)) else (if (t264 == false) = true then (if t246.toList = ([] : List UInt8) then (some true) else ((impl_PlainOk.f kj11 t246).bind fun t267 => (if t267 = true then ((impl_PlainOk.f kj11 t247).bind fun t268 => (some t268)) else (some false)))) else (some false)))) else (some false)) else (some false)) = some r := by rw [if_pos rfl] at H; exact H
              clear H
              have H := H1
              clear H1
              by_cases c41 : t252.toList = t249.toList
              · rw [if_pos c41] at H
                have c41b0 : (t252.toList == t249.toList) = true := beq_iff_eq.mpr c41
                have c41b1 : (t252.toList != t249.toList) = false := bne_eq_false_iff_eq.mpr c41
                clear c41
                by_cases c42 : t253.toList = t250.toList
                · rw [if_pos c42] at H
                  have c42b0 : (t253.toList == t250.toList) = true := beq_iff_eq.mpr c42
                  have c42b1 : (t253.toList != t250.toList) = false := bne_eq_false_iff_eq.mpr c42
                  clear c42
                  replace H := Option.bind_eq_some_iff.mp H
                  obtain ⟨t264, A430, H⟩ := H
                  replace H : (if t248 = true then (if (t264 == (t246.toList == ([] : List UInt8))) = true then (if t246.toList = ([] : List UInt8) then (some true) else ((impl_PlainOk.f kj11 t246).bind fun t265 => (if t265 = true then ((impl_PlainOk.f kj11 t247).bind fun t266 => (some t266)) else (some false)))) else (some false)) else (if (t264 == false) = true then (if t246.toList = ([] : List UInt8) then (some true) else ((impl_PlainOk.f kj11 t246).bind fun t267 => (if t267 = true then ((impl_PlainOk.f kj11 t247).bind fun t268 => (some t268)) else (some false)))) else (some false))) = some r := H
                  have A43 := Aside0.mk A430
                  clear A430
                  by_cases c44 : t248 = true
                  · subst c44
                    have H1 : (if (t264 == (t246.toList == ([] : List UInt8))) = true then (if t246.toList = ([] : List UInt8) then (some true) else ((impl_PlainOk.f kj11 t246).bind fun t265 => (if t265 = true then ((impl_PlainOk.f kj11 t247).bind fun t266 => (some t266)) else (some false)))) else (some false)) = some r := by rw [if_pos rfl] at H; exact H
                    clear H
                    have H := H1
                    clear H1
                    by_cases c45 : (t264 == (t246.toList == ([] : List UInt8))) = true
                    · rw [if_pos c45] at H
                      have c45b0 : (t264 == (t246.toList == ([] : List UInt8))) = true := c45
                      (try (have c45b1 : decide (t264 = (t246.toList == ([] : List UInt8))) = true := by simpa using c45))
                      (try (have c45b2 : (t264 == (t246.toList == ([] : List UInt8))) = true := by simpa using c45))
                      clear c45
                      by_cases c46 : t246.toList = ([] : List UInt8)
                      · rw [if_pos c46] at H
                        have c46b0 : (t246.toList == ([] : List UInt8)) = true := beq_iff_eq.mpr c46
                        have c46b1 : (t246.toList != ([] : List UInt8)) = false := bne_eq_false_iff_eq.mpr c46
                        clear c46
                        obtain rfl := Option.some.inj H
                        rcases Bool.eq_false_or_eq_true (t246.toList == ([] : List UInt8)) with q1_ | q1_
                        all_goals
                          first
                            | exact absurd (Eq.trans (Eq.symm q1_) ‹(t246.toList == ([] : List UInt8)) = true›) (by decide)
                            | exact absurd (Eq.trans (Eq.symm q1_) ‹(t246.toList == ([] : List UInt8)) = false›) (by decide)
                            | (first | (have q2_ : t264 = true := by simpa [q1_] using c45b0) | (have q2_ : t264 = false := by simpa [q1_] using c45b0) | skip)
                              go_wp2_with (first | (go_at_call 33; (with_reducible refine (impl_PlainOk.calls kj11 t245 t264 _ ?tabs A43.out).mono ?_); (case tabs => first | exact Tabs.below HT.out (by repeat (first | (with_reducible first | exact HB.out | apply below_alloc | apply pw_below_drewN | apply below_drew1) | exact HB.out)) | (repeat (first | exact HT.out | (with_reducible refine Tabs.drewN ?_ _) | (with_reducible refine Tabs.drew ?_) | (with_reducible refine Tabs.alloc ?_ _)))); rintro e w47 ⟨rfl, hb⟩; have n0_ := Aside0.mk (below_step (by repeat (first | (with_reducible first | exact HB.out | apply below_alloc | apply pw_below_drewN | apply below_drew1) | exact HB.out)) hb); clear HB; have HB := n0_; clear n0_; (try clear hb); (try clear hb2); (try clear hk); (try clear hi)))
                              go_ret
                              exact ⟨by first | rfl | (simp [errW_none, errW_some] <;> rfl) | (simp [*, errW_none, errW_some] <;> rfl), by repeat (first | (with_reducible first | exact HB.out | apply below_alloc | apply pw_below_drewN | apply below_drew1) | exact HB.out)⟩
                      · rw [if_neg c46] at H
                        have c46b0 : (t246.toList == ([] : List UInt8)) = false := beq_eq_false_iff_ne.mpr c46
                        have c46b1 : (t246.toList != ([] : List UInt8)) = true := bne_iff_ne.mpr c46
                        replace H := Option.bind_eq_some_iff.mp H
                        obtain ⟨t265, A480, H⟩ := H
                        replace H : (if t265 = true then ((impl_PlainOk.f kj11 t247).bind fun t266 => (some t266)) else (some false)) = some r := H
                        have A48 := Aside0.mk A480
                        clear A480
                        by_cases c49 : t265 = true
                        · subst c49
                          have H1 : ((impl_PlainOk.f kj11 t247).bind fun t266 => (some t266)) = some r := by rw [if_pos rfl] at H; exact H
                          clear H
                          have H := H1
                          clear H1
                          replace H := Option.bind_eq_some_iff.mp H
                          obtain ⟨t266, A500, H⟩ := H
                          replace H : (some t266) = some r := H
                          have A50 := Aside0.mk A500
                          clear A500
                          obtain rfl := Option.some.inj H
                          rcases Bool.eq_false_or_eq_true (t246.toList == ([] : List UInt8)) with q1_ | q1_
                          all_goals
                            first
                              | exact absurd (Eq.trans (Eq.symm q1_) ‹(t246.toList == ([] : List UInt8)) = true›) (by decide)
                              | exact absurd (Eq.trans (Eq.symm q1_) ‹(t246.toList == ([] : List UInt8)) = false›) (by decide)
                              | (first | (have q2_ : t264 = true := by simpa [q1_] using c45b0) | (have q2_ : t264 = false := by simpa [q1_] using c45b0) | skip)
                                go_wp2_with (first | (go_at_call 33; (with_reducible refine (impl_PlainOk.calls kj11 t245 t264 _ ?tabs A43.out).mono ?_); (case tabs => first | exact Tabs.below HT.out (by repeat (first | (with_reducible first | exact HB.out | apply below_alloc | apply pw_below_drewN | apply below_drew1) | exact HB.out)) | (repeat (first | exact HT.out | (with_reducible refine Tabs.drewN ?_ _) | (with_reducible refine Tabs.drew ?_) | (with_reducible refine Tabs.alloc ?_ _)))); rintro e w51 ⟨rfl, hb⟩; have n0_ := Aside0.mk (below_step (by repeat (first | (with_reducible first | exact HB.out | apply below_alloc | apply pw_below_drewN | apply below_drew1) | exact HB.out)) hb); clear HB; have HB := n0_; clear n0_; (try clear hb); (try clear hb2); (try clear hk); (try clear hi)) | (go_at_call 33; (with_reducible refine (impl_PlainOk.calls kj11 t246 true _ ?tabs A48.out).mono ?_); (case tabs => first | exact Tabs.below HT.out (by repeat (first | (with_reducible first | exact HB.out | apply below_alloc | apply pw_below_drewN | apply below_drew1) | exact HB.out)) | (repeat (first | exact HT.out | (with_reducible refine Tabs.drewN ?_ _) | (with_reducible refine Tabs.drew ?_) | (with_reducible refine Tabs.alloc ?_ _)))); rintro e w52 ⟨rfl, hb⟩; have n0_ := Aside0.mk (below_step (by repeat (first | (with_reducible first | exact HB.out | apply below_alloc | apply pw_below_drewN | apply below_drew1) | exact HB.out)) hb); clear HB; have HB := n0_; clear n0_; (try clear hb); (try clear hb2); (try clear hk); (try clear hi)) | (go_at_call 33; (with_reducible refine (impl_PlainOk.calls kj11 t247 t266 _ ?tabs A50.out).mono ?_); (case tabs => first | exact Tabs.below HT.out (by repeat (first | (with_reducible first | exact HB.out | apply below_alloc | apply pw_below_drewN | apply below_drew1) | exact HB.out)) | (repeat (first | exact HT.out | (with_reducible refine Tabs.drewN ?_ _) | (with_reducible refine Tabs.drew ?_) | (with_reducible refine Tabs.alloc ?_ _)))); rintro e w53 ⟨rfl, hb⟩; have n0_ := Aside0.mk (below_step (by repeat (first | (with_reducible first | exact HB.out | apply below_alloc | apply pw_below_drewN | apply below_drew1) | exact HB.out)) hb); clear HB; have HB := n0_; clear n0_; (try clear hb); (try clear hb2); (try clear hk); (try clear hi)))
                                go_ret
                                exact ⟨by first | rfl | (simp [errW_none, errW_some] <;> rfl) | (simp [*, errW_none, errW_some] <;> rfl), by repeat (first | (with_reducible first | exact HB.out | apply below_alloc | apply pw_below_drewN | apply below_drew1) | exact HB.out)⟩
                        · replace c49 := Bool.eq_false_iff.mpr c49
                          subst c49
                          have H1 : (some false) = some r := by rw [if_neg (show ¬ (false = true) by decide)] at H; exact H
                          clear H
                          have H := H1
                          clear H1
                          obtain rfl := Option.some.inj H
                          rcases Bool.eq_false_or_eq_true (t246.toList == ([] : List UInt8)) with q1_ | q1_
                          all_goals
                            first
                              | exact absurd (Eq.trans (Eq.symm q1_) ‹(t246.toList == ([] : List UInt8)) = true›) (by decide)
                              | exact absurd (Eq.trans (Eq.symm q1_) ‹(t246.toList == ([] : List UInt8)) = false›) (by decide)
                              | (first | (have q2_ : t264 = true := by simpa [q1_] using c45b0) | (have q2_ : t264 = false := by simpa [q1_] using c45b0) | skip)
                                go_wp2_with (first | (go_at_call 33; (with_reducible refine (impl_PlainOk.calls kj11 t245 t264 _ ?tabs A43.out).mono ?_); (case tabs => first | exact Tabs.below HT.out (by repeat (first | (with_reducible first | exact HB.out | apply below_alloc | apply pw_below_drewN | apply below_drew1) | exact HB.out)) | (repeat (first | exact HT.out | (with_reducible refine Tabs.drewN ?_ _) | (with_reducible refine Tabs.drew ?_) | (with_reducible refine Tabs.alloc ?_ _)))); rintro e w54 ⟨rfl, hb⟩; have n0_ := Aside0.mk (below_step (by repeat (first | (with_reducible first | exact HB.out | apply below_alloc | apply pw_below_drewN | apply below_drew1) | exact HB.out)) hb); clear HB; have HB := n0_; clear n0_; (try clear hb); (try clear hb2); (try clear hk); (try clear hi)) | (go_at_call 33; (with_reducible refine (impl_PlainOk.calls kj11 t246 false _ ?tabs A48.out).mono ?_); (case tabs => first | exact Tabs.below HT.out (by repeat (first | (with_reducible first | exact HB.out | apply below_alloc | apply pw_below_drewN | apply below_drew1) | exact HB.out)) | (repeat (first | exact HT.out | (with_reducible refine Tabs.drewN ?_ _) | (with_reducible refine Tabs.drew ?_) | (with_reducible refine Tabs.alloc ?_ _)))); rintro e w55 ⟨rfl, hb⟩; have n0_ := Aside0.mk (below_step (by repeat (first | (with_reducible first | exact HB.out | apply below_alloc | apply pw_below_drewN | apply below_drew1) | exact HB.out)) hb); clear HB; have HB := n0_; clear n0_; (try clear hb); (try clear hb2); (try clear hk); (try clear hi)))
                                go_ret
                                exact ⟨by first | rfl | (simp [errW_none, errW_some] <;> rfl) | (simp [*, errW_none, errW_some] <;> rfl), by repeat (first | (with_reducible first | exact HB.out | apply below_alloc | apply pw_below_drewN | apply below_drew1) | exact HB.out)⟩
                    · rw [if_neg c45] at H
                      have c45b0 : (t264 == (t246.toList == ([] : List UInt8))) = false := by simpa using c45
                      (try (have c45b1 : decide (t264 = (t246.toList == ([] : List UInt8))) = false := by simpa using c45))
                      (try (have c45b2 : (t264 == (t246.toList == ([] : List UInt8))) = false := by simpa using c45))
                      (try (have c45b3 : ¬ (t264 = (t246.toList == ([] : List UInt8))) := by simpa using c45))
                      clear c45
                      obtain rfl := Option.some.inj H
                      rcases Bool.eq_false_or_eq_true (t246.toList == ([] : List UInt8)) with q1_ | q1_
                      all_goals
                        first
                          | exact absurd (Eq.trans (Eq.symm q1_) ‹(t246.toList == ([] : List UInt8)) = true›) (by decide)
                          | exact absurd (Eq.trans (Eq.symm q1_) ‹(t246.toList == ([] : List UInt8)) = false›) (by decide)
                          | (first | (have q2_ : t264 = true := by simpa [q1_] using c45b0) | (have q2_ : t264 = false := by simpa [q1_] using c45b0) | skip)
                            go_wp2_with (first | (go_at_call 33; (with_reducible refine (impl_PlainOk.calls kj11 t245 t264 _ ?tabs A43.out).mono ?_); (case tabs => first | exact Tabs.below HT.out (by repeat (first | (with_reducible first | exact HB.out | apply below_alloc | apply pw_below_drewN | apply below_drew1) | exact HB.out)) | (repeat (first | exact HT.out | (with_reducible refine Tabs.drewN ?_ _) | (with_reducible refine Tabs.drew ?_) | (with_reducible refine Tabs.alloc ?_ _)))); rintro e w56 ⟨rfl, hb⟩; have n0_ := Aside0.mk (below_step (by repeat (first | (with_reducible first | exact HB.out | apply below_alloc | apply pw_below_drewN | apply below_drew1) | exact HB.out)) hb); clear HB; have HB := n0_; clear n0_; (try clear hb); (try clear hb2); (try clear hk); (try clear hi)))
                            go_ret
                            exact ⟨by first | rfl | (simp [errW_none, errW_some] <;> rfl) | (simp [*, errW_none, errW_some] <;> rfl), by repeat (first | (with_reducible first | exact HB.out | apply below_alloc | apply pw_below_drewN | apply below_drew1) | exact HB.out)⟩
                  · replace c44 := Bool.eq_false_iff.mpr c44
                    subst c44
                    have H1 : (if (t264 == false) = true then (if t246.toList = ([] : List UInt8) then (some true) else ((impl_PlainOk.f kj11 t246).bind fun t267 => (if t267 = true then ((impl_PlainOk.f kj11 t247).bind fun t268 => (some t268)) else (some false)))) else (some false)) = some r := by rw [if_neg (show ¬ (false = true) by decide)] at H; exact H
                    clear H
                    have H := H1
                    clear H1
                    by_cases c57 : (t264 == false) = true
                    · rw [if_pos c57] at H
                      have c57b0 : (t264 == false) = true := c57
                      (try (have c57b1 : decide (t264 = false) = true := by simpa using c57))
                      (try (have c57b2 : (t264 == false) = true := by simpa using c57))
                      clear c57
                      by_cases c58 : t246.toList = ([] : List UInt8)
                      · rw [if_pos c58] at H
                        have c58b0 : (t246.toList == ([] : List UInt8)) = true := beq_iff_eq.mpr c58
                        have c58b1 : (t246.toList != ([] : List UInt8)) = false := bne_eq_false_iff_eq.mpr c58
                        clear c58
                        obtain rfl := Option.some.inj H
                        go_wp2_with (first | (go_at_call 33; (with_reducible refine (impl_PlainOk.calls kj11 t245 t264 _ ?tabs A43.out).mono ?_); (case tabs => first | exact Tabs.below HT.out (by repeat (first | (with_reducible first | exact HB.out | apply below_alloc | apply pw_below_drewN | apply below_drew1) | exact HB.out)) | (repeat (first | exact HT.out | (with_reducible refine Tabs.drewN ?_ _) | (with_reducible refine Tabs.drew ?_) | (with_reducible refine Tabs.alloc ?_ _)))); rintro e w59 ⟨rfl, hb⟩; have n0_ := Aside0.mk (below_step (by repeat (first | (with_reducible first | exact HB.out | apply below_alloc | apply pw_below_drewN | apply below_drew1) | exact HB.out)) hb); clear HB; have HB := n0_; clear n0_; (try clear hb); (try clear hb2); (try clear hk); (try clear hi)))
                        go_ret
                        exact ⟨by first | rfl | (simp [errW_none, errW_some] <;> rfl) | (simp [*, errW_none, errW_some] <;> rfl), by repeat (first | (with_reducible first | exact HB.out | apply below_alloc | apply pw_below_drewN | apply below_drew1) | exact HB.out)⟩
                      · rw [if_neg c58] at H
                        have c58b0 : (t246.toList == ([] : List UInt8)) = false := beq_eq_false_iff_ne.mpr c58
                        have c58b1 : (t246.toList != ([] : List UInt8)) = true := bne_iff_ne.mpr c58
                        replace H := Option.bind_eq_some_iff.mp H
                        obtain ⟨t267, A600, H⟩ := H
                        replace H : (if t267 = true then ((impl_PlainOk.f kj11 t247).bind fun t268 => (some t268)) else (some false)) = some r := H
                        have A60 := Aside0.mk A600
                        clear A600
                        by_cases c61 : t267 = true
                        · subst c61
                          have H1 : ((impl_PlainOk.f kj11 t247).bind fun t268 => (some t268)) = some r := by rw [if_pos rfl] at H; exact H
                          clear H
                          have H := H1
                          clear H1
                          replace H := Option.bind_eq_some_iff.mp H
                          obtain ⟨t268, A620, H⟩ := H
                          replace H : (some t268) = some r := H
                          have A62 := Aside0.mk A620
                          clear A620
                          obtain rfl := Option.some.inj H
                          go_wp2_with (first | (go_at_call 33; (with_reducible refine (impl_PlainOk.calls kj11 t245 t264 _ ?tabs A43.out).mono ?_); (case tabs => first | exact Tabs.below HT.out (by repeat (first | (with_reducible first | exact HB.out | apply below_alloc | apply pw_below_drewN | apply below_drew1) | exact HB.out)) | (repeat (first | exact HT.out | (with_reducible refine Tabs.drewN ?_ _) | (with_reducible refine Tabs.drew ?_) | (with_reducible refine Tabs.alloc ?_ _)))); rintro e w63 ⟨rfl, hb⟩; have n0_ := Aside0.mk (below_step (by repeat (first | (with_reducible first | exact HB.out | apply below_alloc | apply pw_below_drewN | apply below_drew1) | exact HB.out)) hb); clear HB; have HB := n0_; clear n0_; (try clear hb); (try clear hb2); (try clear hk); (try clear hi)) | (go_at_call 33; (with_reducible refine (impl_PlainOk.calls kj11 t246 true _ ?tabs A60.out).mono ?_); (case tabs => first | exact Tabs.below HT.out (by repeat (first | (with_reducible first | exact HB.out | apply below_alloc | apply pw_below_drewN | apply below_drew1) | exact HB.out)) | (repeat (first | exact HT.out | (with_reducible refine Tabs.drewN ?_ _) | (with_reducible refine Tabs.drew ?_) | (with_reducible refine Tabs.alloc ?_ _)))); rintro e w64 ⟨rfl, hb⟩; have n0_ := Aside0.mk (below_step (by repeat (first | (with_reducible first | exact HB.out | apply below_alloc | apply pw_below_drewN | apply below_drew1) | exact HB.out)) hb); clear HB; have HB := n0_; clear n0_; (try clear hb); (try clear hb2); (try clear hk); (try clear hi)) | (go_at_call 33; (with_reducible refine (impl_PlainOk.calls kj11 t247 t268 _ ?tabs A62.out).mono ?_); (case tabs => first | exact Tabs.below HT.out (by repeat (first | (with_reducible first | exact HB.out | apply below_alloc | apply pw_below_drewN | apply below_drew1) | exact HB.out)) | (repeat (first | exact HT.out | (with_reducible refine Tabs.drewN ?_ _) | (with_reducible refine Tabs.drew ?_) | (with_reducible refine Tabs.alloc ?_ _)))); rintro e w65 ⟨rfl, hb⟩; have n0_ := Aside0.mk (below_step (by repeat (first | (with_reducible first | exact HB.out | apply below_alloc | apply pw_below_drewN | apply below_drew1) | exact HB.out)) hb); clear HB; have HB := n0_; clear n0_; (try clear hb); (try clear hb2); (try clear hk); (try clear hi)))
                          go_ret
                          exact ⟨by first | rfl | (simp [errW_none, errW_some] <;> rfl) | (simp [*, errW_none, errW_some] <;> rfl), by repeat (first | (with_reducible first | exact HB.out | apply below_alloc | apply pw_below_drewN | apply below_drew1) | exact HB.out)⟩
                        · replace c61 := Bool.eq_false_iff.mpr c61
                          subst c61
                          have H1 : (some false) = some r := by rw [if_neg (show ¬ (false = true) by decide)] at H; exact H
                          clear H
                          have H := H1
                          clear H1
                          obtain rfl := Option.some.inj H
                          go_wp2_with (first | (go_at_call 33; (with_reducible refine (impl_PlainOk.calls kj11 t245 t264 _ ?tabs A43.out).mono ?_); (case tabs => first | exact Tabs.below HT.out (by repeat (first | (with_reducible first | exact HB.out | apply below_alloc | apply pw_below_drewN | apply below_drew1) | exact HB.out)) | (repeat (first | exact HT.out | (with_reducible refine Tabs.drewN ?_ _) | (with_reducible refine Tabs.drew ?_) | (with_reducible refine Tabs.alloc ?_ _)))); rintro e w66 ⟨rfl, hb⟩; have n0_ := Aside0.mk (below_step (by repeat (first | (with_reducible first | exact HB.out | apply below_alloc | apply pw_below_drewN | apply below_drew1) | exact HB.out)) hb); clear HB; have HB := n0_; clear n0_; (try clear hb); (try clear hb2); (try clear hk); (try clear hi)) | (go_at_call 33; (with_reducible refine (impl_PlainOk.calls kj11 t246 false _ ?tabs A60.out).mono ?_); (case tabs => first | exact Tabs.below HT.out (by repeat (first | (with_reducible first | exact HB.out | apply below_alloc | apply pw_below_drewN | apply below_drew1) | exact HB.out)) | (repeat (first | exact HT.out | (with_reducible refine Tabs.drewN ?_ _) | (with_reducible refine Tabs.drew ?_) | (with_reducible refine Tabs.alloc ?_ _)))); rintro e w67 ⟨rfl, hb⟩; have n0_ := Aside0.mk (below_step (by repeat (first | (with_reducible first | exact HB.out | apply below_alloc | apply pw_below_drewN | apply below_drew1) | exact HB.out)) hb); clear HB; have HB := n0_; clear n0_; (try clear hb); (try clear hb2); (try clear hk); (try clear hi)))
                          go_ret
                          exact ⟨by first | rfl | (simp [errW_none, errW_some] <;> rfl) | (simp [*, errW_none, errW_some] <;> rfl), by repeat (first | (with_reducible first | exact HB.out | apply below_alloc | apply pw_below_drewN | apply below_drew1) | exact HB.out)⟩
                    · rw [if_neg c57] at H
                      have c57b0 : (t264 == false) = false := by simpa using c57
                      (try (have c57b1 : decide (t264 = false) = false := by simpa using c57))
                      (try (have c57b2 : (t264 == false) = false := by simpa using c57))
                      (try (have c57b3 : ¬ (t264 = false) := by simpa using c57))
                      clear c57
                      obtain rfl := Option.some.inj H
                      go_wp2_with (first | (go_at_call 33; (with_reducible refine (impl_PlainOk.calls kj11 t245 t264 _ ?tabs A43.out).mono ?_); (case tabs => first | exact Tabs.below HT.out (by repeat (first | (with_reducible first | exact HB.out | apply below_alloc | apply pw_below_drewN | apply below_drew1) | exact HB.out)) | (repeat (first | exact HT.out | (with_reducible refine Tabs.drewN ?_ _) | (with_reducible refine Tabs.drew ?_) | (with_reducible refine Tabs.alloc ?_ _)))); rintro e w68 ⟨rfl, hb⟩; have n0_ := Aside0.mk (below_step (by repeat (first | (with_reducible first | exact HB.out | apply below_alloc | apply pw_below_drewN | apply below_drew1) | exact HB.out)) hb); clear HB; have HB := n0_; clear n0_; (try clear hb); (try clear hb2); (try clear hk); (try clear hi)))
                      go_ret
                      exact ⟨by first | rfl | (simp [errW_none, errW_some] <;> rfl) | (simp [*, errW_none, errW_some] <;> rfl), by repeat (first | (with_reducible first | exact HB.out | apply below_alloc | apply pw_below_drewN | apply below_drew1) | exact HB.out)⟩
                · rw [if_neg c42] at H
                  have c42b0 : (t253.toList == t250.toList) = false := beq_eq_false_iff_ne.mpr c42
                  have c42b1 : (t253.toList != t250.toList) = true := bne_iff_ne.mpr c42
                  obtain rfl := Option.some.inj H
                  go_wp2
                  go_ret
                  exact ⟨by first | rfl | (simp [errW_none, errW_some] <;> rfl) | (simp [*, errW_none, errW_some] <;> rfl), by repeat (first | (with_reducible first | exact HB.out | apply below_alloc | apply pw_below_drewN | apply below_drew1) | exact HB.out)⟩
              · rw [if_neg c41] at H
                have c41b0 : (t252.toList == t249.toList) = false := beq_eq_false_iff_ne.mpr c41
                have c41b1 : (t252.toList != t249.toList) = true := bne_iff_ne.mpr c41
                obtain rfl := Option.some.inj H
                go_wp2
                go_ret
                exact ⟨by first | rfl | (simp [errW_none, errW_some] <;> rfl) | (simp [*, errW_none, errW_some] <;> rfl), by repeat (first | (with_reducible first | exact HB.out | apply below_alloc | apply pw_below_drewN | apply below_drew1) | exact HB.out)⟩
            · replace c40 := Bool.eq_false_iff.mpr c40
              subst c40
              have H1 : ((impl_PlainOk.f kj11 t245).bind fun t269 => (if t248 = true then (if (t269 == (t246.toList == ([] : List UInt8))) = true then (if t246.toList = ([] : List UInt8) then (some true) else ((impl_PlainOk.f kj11 t246).bind fun t270 => (if t270 = true then ((impl_PlainOk.f kj11 t247).bind fun t271 => (some t271)) else (some false)))) else (some false)) else (if (t269 == false) = true then (if t246.toList = ([] : List UInt8) then (some true) else ((impl_PlainOk.f kj11 t246).bind fun t272 => (if t272 = true then ((impl_PlainOk.f kj11 t247).bind fun t273 => (some t273)) else (some false)))) else (some false)))) = some r := by rw [if_neg (show ¬ (false = true) by decide)] at H; exact H
              clear H
              have H := H1
              clear H1
              replace H := Option.bind_eq_some_iff.mp H
              obtain ⟨t269, A690, H⟩ := H
              replace H : (if t248 = true then (if (t269 == (t246.toList == ([] : List UInt8))) = true then (if t246.toList = ([] : List UInt8) then (some true) else ((impl_PlainOk.f kj11 t246).bind fun t270 => (if t270 = true then ((impl_PlainOk.f kj11 t247).bind fun t271 => (some t271)) else (some false)))) else (some false)) else (if (t269 == false) = true then (if t246.toList = ([] : List UInt8) then (some true) else ((impl_PlainOk.f kj11 t246).bind fun t272 => (if t272 = true then ((impl_PlainOk.f kj11 t247).bind fun t273 => (some t273)) else (some false)))) else (some false))) = some r := H
              have A69 := Aside0.mk A690
              clear A690
              by_cases c70 : t248 = true
              · subst c70
                have H1 : (if (t269 == (t246.toList == ([] : List UInt8))) = true then (if t246.toList = ([] : List UInt8) then (some true) else ((impl_PlainOk.f kj11 t246).bind fun t270 => (if t270 = true then ((impl_PlainOk.f kj11 t247).bind fun t271 => (some t271)) else (some false)))) else (some false)) = some r := by rw [if_pos rfl] at H; exact H
                clear H
                have H := H1
                clear H1
                by_cases c71 : (t269 == (t246.toList == ([] : List UInt8))) = true
                · rw [if_pos c71] at H
                  have c71b0 : (t269 == (t246.toList == ([] : List UInt8))) = true := c71
                  (try (have c71b1 : decide (t269 = (t246.toList == ([] : List UInt8))) = true := by simpa using c71))
                  (try (have c71b2 : (t269 == (t246.toList == ([] : List UInt8))) = true := by simpa using c71))
                  clear c71
                  by_cases c72 : t246.toList = ([] : List UInt8)
                  · rw [if_pos c72] at H
                    have c72b0 : (t246.toList == ([] : List UInt8)) = true := beq_iff_eq.mpr c72
                    have c72b1 : (t246.toList != ([] : List UInt8)) = false := bne_eq_false_iff_eq.mpr c72
                    clear c72
                    obtain rfl := Option.some.inj H
                    rcases Bool.eq_false_or_eq_true (t246.toList == ([] : List UInt8)) with q1_ | q1_
                    all_goals
                      first
                        | exact absurd (Eq.trans (Eq.symm q1_) ‹(t246.toList == ([] : List UInt8)) = true›) (by decide)
                        | exact absurd (Eq.trans (Eq.symm q1_) ‹(t246.toList == ([] : List UInt8)) = false›) (by decide)
                        | (first | (have q2_ : t269 = true := by simpa [q1_] using c71b0) | (have q2_ : t269 = false := by simpa [q1_] using c71b0) | skip)
                          go_wp2_with (first | (go_at_call 33; (with_reducible refine (impl_PlainOk.calls kj11 t245 t269 _ ?tabs A69.out).mono ?_); (case tabs => first | exact Tabs.below HT.out (by repeat (first | (with_reducible first | exact HB.out | apply below_alloc | apply pw_below_drewN | apply below_drew1) | exact HB.out)) | (repeat (first | exact HT.out | (with_reducible refine Tabs.drewN ?_ _) | (with_reducible refine Tabs.drew ?_) | (with_reducible refine Tabs.alloc ?_ _)))); rintro e w73 ⟨rfl, hb⟩; have n0_ := Aside0.mk (below_step (by repeat (first | (with_reducible first | exact HB.out | apply below_alloc | apply pw_below_drewN | apply below_drew1) | exact HB.out)) hb); clear HB; have HB := n0_; clear n0_; (try clear hb); (try clear hb2); (try clear hk); (try clear hi)))
                          go_ret
                          exact ⟨by first | rfl | (simp [errW_none, errW_some] <;> rfl) | (simp [*, errW_none, errW_some] <;> rfl), by repeat (first | (with_reducible first | exact HB.out | apply below_alloc | apply pw_below_drewN | apply below_drew1) | exact HB.out)⟩
                  · rw [if_neg c72] at H
                    have c72b0 : (t246.toList == ([] : List UInt8)) = false := beq_eq_false_iff_ne.mpr c72
                    have c72b1 : (t246.toList != ([] : List UInt8)) = true := bne_iff_ne.mpr c72
                    replace H := Option.bind_eq_some_iff.mp H
                    obtain ⟨t270, A740, H⟩ := H
                    replace H : (if t270 = true then ((impl_PlainOk.f kj11 t247).bind fun t271 => (some t271)) else (some false)) = some r := H
                    have A74 := Aside0.mk A740
                    clear A740
                    by_cases c75 : t270 = true
                    · subst c75
                      have H1 : ((impl_PlainOk.f kj11 t247).bind fun t271 => (some t271)) = some r := by rw [if_pos rfl] at H; exact H
                      clear H
                      have H := H1
                      clear H1
                      replace H := Option.bind_eq_some_iff.mp H
                      obtain ⟨t271, A760, H⟩ := H
                      replace H : (some t271) = some r := H
                      have A76 := Aside0.mk A760
                      clear A760
                      obtain rfl := Option.some.inj H
                      rcases Bool.eq_false_or_eq_true (t246.toList == ([] : List UInt8)) with q1_ | q1_
                      all_goals
                        first
                          | exact absurd (Eq.trans (Eq.symm q1_) ‹(t246.toList == ([] : List UInt8)) = true›) (by decide)
                          | exact absurd (Eq.trans (Eq.symm q1_) ‹(t246.toList == ([] : List UInt8)) = false›) (by decide)
                          | (first | (have q2_ : t269 = true := by simpa [q1_] using c71b0) | (have q2_ : t269 = false := by simpa [q1_] using c71b0) | skip)
                            go_wp2_with (first | (go_at_call 33; (with_reducible refine (impl_PlainOk.calls kj11 t245 t269 _ ?tabs A69.out).mono ?_); (case tabs => first | exact Tabs.below HT.out (by repeat (first | (with_reducible first | exact HB.out | apply below_alloc | apply pw_below_drewN | apply below_drew1) | exact HB.out)) | (repeat (first | exact HT.out | (with_reducible refine Tabs.drewN ?_ _) | (with_reducible refine Tabs.drew ?_) | (with_reducible refine Tabs.alloc ?_ _)))); rintro e w77 ⟨rfl, hb⟩; have n0_ := Aside0.mk (below_step (by repeat (first | (with_reducible first | exact HB.out | apply below_alloc | apply pw_below_drewN | apply below_drew1) | exact HB.out)) hb); clear HB; have HB := n0_; clear n0_; (try clear hb); (try clear hb2); (try clear hk); (try clear hi)) | (go_at_call 33; (with_reducible refine (impl_PlainOk.calls kj11 t246 true _ ?tabs A74.out).mono ?_); (case tabs => first | exact Tabs.below HT.out (by repeat (first | (with_reducible first | exact HB.out | apply below_alloc | apply pw_below_drewN | apply below_drew1) | exact HB.out)) | (repeat (first | exact HT.out | (with_reducible refine Tabs.drewN ?_ _) | (with_reducible refine Tabs.drew ?_) | (with_reducible refine Tabs.alloc ?_ _)))); rintro e w78 ⟨rfl, hb⟩; have n0_ := Aside0.mk (below_step (by repeat (first | (with_reducible first | exact HB.out | apply below_alloc | apply pw_below_drewN | apply below_drew1) | exact HB.out)) hb); clear HB; have HB := n0_; clear n0_; (try clear hb); (try clear hb2); (try clear hk); (try clear hi)) | (go_at_call 33; (with_reducible refine (impl_PlainOk.calls kj11 t247 t271 _ ?tabs A76.out).mono ?_); (case tabs => first | exact Tabs.below HT.out (by repeat (first | (with_reducible first | exact HB.out | apply below_alloc | apply pw_below_drewN | apply below_drew1) | exact HB.out)) | (repeat (first | exact HT.out | (with_reducible refine Tabs.drewN ?_ _) | (with_reducible refine Tabs.drew ?_) | (with_reducible refine Tabs.alloc ?_ _)))); rintro e w79 ⟨rfl, hb⟩; have n0_ := Aside0.mk (below_step (by repeat (first | (with_reducible first | exact HB.out | apply below_alloc | apply pw_below_drewN | apply below_drew1) | exact HB.out)) hb); clear HB; have HB := n0_; clear n0_; (try clear hb); (try clear hb2); (try clear hk); (try clear hi)))
                            go_ret
                            exact ⟨by first | rfl | (simp [errW_none, errW_some] <;> rfl) | (simp [*, errW_none, errW_some] <;> rfl), by repeat (first | (with_reducible first | exact HB.out | apply below_alloc | apply pw_below_drewN | apply below_drew1) | exact HB.out)⟩
                    · replace c75 := Bool.eq_false_iff.mpr c75
                      subst c75
                      have H1 : (some false) = some r := by rw [if_neg (show ¬ (false = true) by decide)] at H; exact H
                      clear H
                      have H := H1
                      clear H1
                      obtain rfl := Option.some.inj H
                      rcases Bool.eq_false_or_eq_true (t246.toList == ([] : List UInt8)) with q1_ | q1_
                      all_goals
                        first
                          | exact absurd (Eq.trans (Eq.symm q1_) ‹(t246.toList == ([] : List UInt8)) = true›) (by decide)
                          | exact absurd (Eq.trans (Eq.symm q1_) ‹(t246.toList == ([] : List UInt8)) = false›) (by decide)
                          | (first | (have q2_ : t269 = true := by simpa [q1_] using c71b0) | (have q2_ : t269 = false := by simpa [q1_] using c71b0) | skip)
                            go_wp2_with (first | (go_at_call 33; (with_reducible refine (impl_PlainOk.calls kj11 t245 t269 _ ?tabs A69.out).mono ?_); (case tabs => first | exact Tabs.below HT.out (by repeat (first | (with_reducible first | exact HB.out | apply below_alloc | apply pw_below_drewN | apply below_drew1) | exact HB.out)) | (repeat (first | exact HT.out | (with_reducible refine Tabs.drewN ?_ _) | (with_reducible refine Tabs.drew ?_) | (with_reducible refine Tabs.alloc ?_ _)))); rintro e w80 ⟨rfl, hb⟩; have n0_ := Aside0.mk (below_step (by repeat (first | (with_reducible first | exact HB.out | apply below_alloc | apply pw_below_drewN | apply below_drew1) | exact HB.out)) hb); clear HB; have HB := n0_; clear n0_; (try clear hb); (try clear hb2); (try clear hk); (try clear hi)) | (go_at_call 33; (with_reducible refine (impl_PlainOk.calls kj11 t246 false _ ?tabs A74.out).mono ?_); (case tabs => first | exact Tabs.below HT.out (by repeat (first | (with_reducible first | exact HB.out | apply below_alloc | apply pw_below_drewN | apply below_drew1) | exact HB.out)) | (repeat (first | exact HT.out | (with_reducible refine Tabs.drewN ?_ _) | (with_reducible refine Tabs.drew ?_) | (with_reducible refine Tabs.alloc ?_ _)))); rintro e w81 ⟨rfl, hb⟩; have n0_ := Aside0.mk (below_step (by repeat (first | (with_reducible first | exact HB.out | apply below_alloc | apply pw_below_drewN | apply below_drew1) | exact HB.out)) hb); clear HB; have HB := n0_; clear n0_; (try clear hb); (try clear hb2); (try clear hk); (try clear hi)))
                            go_ret
                            exact ⟨by first | rfl | (simp [errW_none, errW_some] <;> rfl) | (simp [*, errW_none, errW_some] <;> rfl), by repeat (first | (with_reducible first | exact HB.out | apply below_alloc | apply pw_below_drewN | apply below_drew1) | exact HB.out)⟩
                · rw [if_neg c71] at H
                  have c71b0 : (t269 == (t246.toList == ([] : List UInt8))) = false := by simpa using c71
                  (try (have c71b1 : decide (t269 = (t246.toList == ([] : List UInt8))) = false := by simpa using c71))
                  (try (have c71b2 : (t269 == (t246.toList == ([] : List UInt8))) = false := by simpa using c71))
                  (try (have c71b3 : ¬ (t269 = (t246.toList == ([] : List UInt8))) := by simpa using c71))
                  clear c71
                  obtain rfl := Option.some.inj H
                  rcases Bool.eq_false_or_eq_true (t246.toList == ([] : List UInt8)) with q1_ | q1_
                  all_goals
                    first
                      | exact absurd (Eq.trans (Eq.symm q1_) ‹(t246.toList == ([] : List UInt8)) = true›) (by decide)
                      | exact absurd (Eq.trans (Eq.symm q1_) ‹(t246.toList == ([] : List UInt8)) = false›) (by decide)
                      | (first | (have q2_ : t269 = true := by simpa [q1_] using c71b0) | (have q2_ : t269 = false := by simpa [q1_] using c71b0) | skip)
                        go_wp2_with (first | (go_at_call 33; (with_reducible refine (impl_PlainOk.calls kj11 t245 t269 _ ?tabs A69.out).mono ?_); (case tabs => first | exact Tabs.below HT.out (by repeat (first | (with_reducible first | exact HB.out | apply below_alloc | apply pw_below_drewN | apply below_drew1) | exact HB.out)) | (repeat (first | exact HT.out | (with_reducible refine Tabs.drewN ?_ _) | (with_reducible refine Tabs.drew ?_) | (with_reducible refine Tabs.alloc ?_ _)))); rintro e w82 ⟨rfl, hb⟩; have n0_ := Aside0.mk (below_step (by repeat (first | (with_reducible first | exact HB.out | apply below_alloc | apply pw_below_drewN | apply below_drew1) | exact HB.out)) hb); clear HB; have HB := n0_; clear n0_; (try clear hb); (try clear hb2); (try clear hk); (try clear hi)))
                        go_ret
                        exact ⟨by first | rfl | (simp [errW_none, errW_some] <;> rfl) | (simp [*, errW_none, errW_some] <;> rfl), by repeat (first | (with_reducible first | exact HB.out | apply below_alloc | apply pw_below_drewN | apply below_drew1) | exact HB.out)⟩
              · replace c70 := Bool.eq_false_iff.mpr c70
                subst c70
                have H1 : (if (t269 == false) = true then (if t246.toList = ([] : List UInt8) then (some true) else ((impl_PlainOk.f kj11 t246).bind fun t272 => (if t272 = true then ((impl_PlainOk.f kj11 t247).bind fun t273 => (some t273)) else (some false)))) else (some false)) = some r := by rw [if_neg (show ¬ (false = true) by decide)] at H; exact H
                clear H
                have H := H1
                clear H1
                by_cases c83 : (t269 == false) = true
                · rw [if_pos c83] at H
                  have c83b0 : (t269 == false) = true := c83
                  (try (have c83b1 : decide (t269 = false) = true := by simpa using c83))
                  (try (have c83b2 : (t269 == false) = true := by simpa using c83))
                  clear c83
                  by_cases c84 : t246.toList = ([] : List UInt8)
                  · rw [if_pos c84] at H
                    have c84b0 : (t246.toList == ([] : List UInt8)) = true := beq_iff_eq.mpr c84
                    have c84b1 : (t246.toList != ([] : List UInt8)) = false := bne_eq_false_iff_eq.mpr c84
                    clear c84
                    obtain rfl := Option.some.inj H
                    go_wp2_with (first | (go_at_call 33; (with_reducible refine (impl_PlainOk.calls kj11 t245 t269 _ ?tabs A69.out).mono ?_); (case tabs => first | exact Tabs.below HT.out (by repeat (first | (with_reducible first | exact HB.out | apply below_alloc | apply pw_below_drewN | apply below_drew1) | exact HB.out)) | (repeat (first | exact HT.out | (with_reducible refine Tabs.drewN ?_ _) | (with_reducible refine Tabs.drew ?_) | (with_reducible refine Tabs.alloc ?_ _)))); rintro e w85 ⟨rfl, hb⟩; have n0_ := Aside0.mk (below_step (by repeat (first | (with_reducible first | exact HB.out | apply below_alloc | apply pw_below_drewN | apply below_drew1) | exact HB.out)) hb); clear HB; have HB := n0_; clear n0_; (try clear hb); (try clear hb2); (try clear hk); (try clear hi)))
                    go_ret
                    exact ⟨by first | rfl | (simp [errW_none, errW_some] <;> rfl) | (simp [*, errW_none, errW_some] <;> rfl), by repeat (first | (with_reducible first | exact HB.out | apply below_alloc | apply pw_below_drewN | apply below_drew1) | exact HB.out)⟩
                  · rw [if_neg c84] at H
                    have c84b0 : (t246.toList == ([] : List UInt8)) = false := beq_eq_false_iff_ne.mpr c84
                    have c84b1 : (t246.toList != ([] : List UInt8)) = true := bne_iff_ne.mpr c84
                    replace H := Option.bind_eq_some_iff.mp H
                    obtain ⟨t272, A860, H⟩ := H
                    replace H : (if t272 = true then ((impl_PlainOk.f kj11 t247).bind fun t273 => (some t273)) else (some false)) = some r := H
                    have A86 := Aside0.mk A860
                    clear A860
                    by_cases c87 : t272 = true
                    · subst c87
                      have H1 : ((impl_PlainOk.f kj11 t247).bind fun t273 => (some t273)) = some r := by rw [if_pos rfl] at H; exact H
                      clear H
                      have H := H1
                      clear H1
                      replace H := Option.bind_eq_some_iff.mp H
                      obtain ⟨t273, A880, H⟩ := H
                      replace H : (some t273) = some r := H
                      have A88 := Aside0.mk A880
                      clear A880
                      obtain rfl := Option.some.inj H
                      go_wp2_with (first | (go_at_call 33; (with_reducible refine (impl_PlainOk.calls kj11 t245 t269 _ ?tabs A69.out).mono ?_); (case tabs => first | exact Tabs.below HT.out (by repeat (first | (with_reducible first | exact HB.out | apply below_alloc | apply pw_below_drewN | apply below_drew1) | exact HB.out)) | (repeat (first | exact HT.out | (with_reducible refine Tabs.drewN ?_ _) | (with_reducible refine Tabs.drew ?_) | (with_reducible refine Tabs.alloc ?_ _)))); rintro e w89 ⟨rfl, hb⟩; have n0_ := Aside0.mk (below_step (by repeat (first | (with_reducible first | exact HB.out | apply below_alloc | apply pw_below_drewN | apply below_drew1) | exact HB.out)) hb); clear HB; have HB := n0_; clear n0_; (try clear hb); (try clear hb2); (try clear hk); (try clear hi)) | (go_at_call 33; (with_reducible refine (impl_PlainOk.calls kj11 t246 true _ ?tabs A86.out).mono ?_); (case tabs => first | exact Tabs.below HT.out (by repeat (first | (with_reducible first | exact HB.out | apply below_alloc | apply pw_below_drewN | apply below_drew1) | exact HB.out)) | (repeat (first | exact HT.out | (with_reducible refine Tabs.drewN ?_ _) | (with_reducible refine Tabs.drew ?_) | (with_reducible refine Tabs.alloc ?_ _)))); rintro e w90 ⟨rfl, hb⟩; have n0_ := Aside0.mk (below_step (by repeat (first | (with_reducible first | exact HB.out | apply below_alloc | apply pw_below_drewN | apply below_drew1) | exact HB.out)) hb); clear HB; have HB := n0_; clear n0_; (try clear hb); (try clear hb2); (try clear hk); (try clear hi)) | (go_at_call 33; (with_reducible refine (impl_PlainOk.calls kj11 t247 t273 _ ?tabs A88.out).mono ?_); (case tabs => first | exact Tabs.below HT.out (by repeat (first | (with_reducible first | exact HB.out | apply below_alloc | apply pw_below_drewN | apply below_drew1) | exact HB.out)) | (repeat (first | exact HT.out | (with_reducible refine Tabs.drewN ?_ _) | (with_reducible refine Tabs.drew ?_) | (with_reducible refine Tabs.alloc ?_ _)))); rintro e w91 ⟨rfl, hb⟩; have n0_ := Aside0.mk (below_step (by repeat (first | (with_reducible first | exact HB.out | apply below_alloc | apply pw_below_drewN | apply below_drew1) | exact HB.out)) hb); clear HB; have HB := n0_; clear n0_; (try clear hb); (try clear hb2); (try clear hk); (try clear hi)))
                      go_ret
                      exact ⟨by first | rfl | (simp [errW_none, errW_some] <;> rfl) | (simp [*, errW_none, errW_some] <;> rfl), by repeat (first | (with_reducible first | exact HB.out | apply below_alloc | apply pw_below_drewN | apply below_drew1) | exact HB.out)⟩
                    · replace c87 := Bool.eq_false_iff.mpr c87
                      subst c87
                      have H1 : (some false) = some r := by rw [if_neg (show ¬ (false = true) by decide)] at H; exact H
                      clear H
                      have H := H1
                      clear H1
                      obtain rfl := Option.some.inj H
                      go_wp2_with (first | (go_at_call 33; (with_reducible refine (impl_PlainOk.calls kj11 t245 t269 _ ?tabs A69.out).mono ?_); (case tabs => first | exact Tabs.below HT.out (by repeat (first | (with_reducible first | exact HB.out | apply below_alloc | apply pw_below_drewN | apply below_drew1) | exact HB.out)) | (repeat (first | exact HT.out | (with_reducible refine Tabs.drewN ?_ _) | (with_reducible refine Tabs.drew ?_) | (with_reducible refine Tabs.alloc ?_ _)))); rintro e w92 ⟨rfl, hb⟩; have n0_ := Aside0.mk (below_step (by repeat (first | (with_reducible first | exact HB.out | apply below_alloc | apply pw_below_drewN | apply below_drew1) | exact HB.out)) hb); clear HB; have HB := n0_; clear n0_; (try clear hb); (try clear hb2); (try clear hk); (try clear hi)) | (go_at_call 33; (with_reducible refine (impl_PlainOk.calls kj11 t246 false _ ?tabs A86.out).mono ?_); (case tabs => first | exact Tabs.below HT.out (by repeat (first | (with_reducible first | exact HB.out | apply below_alloc | apply pw_below_drewN | apply below_drew1) | exact HB.out)) | (repeat (first | exact HT.out | (with_reducible refine Tabs.drewN ?_ _) | (with_reducible refine Tabs.drew ?_) | (with_reducible refine Tabs.alloc ?_ _)))); rintro e w93 ⟨rfl, hb⟩; have n0_ := Aside0.mk (below_step (by repeat (first | (with_reducible first | exact HB.out | apply below_alloc | apply pw_below_drewN | apply below_drew1) | exact HB.out)) hb); clear HB; have HB := n0_; clear n0_; (try clear hb); (try clear hb2); (try clear hk); (try clear hi)))
                      go_ret
                      exact ⟨by first | rfl | (simp [errW_none, errW_some] <;> rfl) | (simp [*, errW_none, errW_some] <;> rfl), by repeat (first | (with_reducible first | exact HB.out | apply below_alloc | apply pw_below_drewN | apply below_drew1) | exact HB.out)⟩
                · rw [if_neg c83] at H
                  have c83b0 : (t269 == false) = false := by simpa using c83
                  (try (have c83b1 : decide (t269 = false) = false := by simpa using c83))
                  (try (have c83b2 : (t269 == false) = false := by simpa using c83))
                  (try (have c83b3 : ¬ (t269 = false) := by simpa using c83))
                  clear c83
                  obtain rfl := Option.some.inj H
                  go_wp2_with (first | (go_at_call 33; (with_reducible refine (impl_PlainOk.calls kj11 t245 t269 _ ?tabs A69.out).mono ?_); (case tabs => first | exact Tabs.below HT.out (by repeat (first | (with_reducible first | exact HB.out | apply below_alloc | apply pw_below_drewN | apply below_drew1) | exact HB.out)) | (repeat (first | exact HT.out | (with_reducible refine Tabs.drewN ?_ _) | (with_reducible refine Tabs.drew ?_) | (with_reducible refine Tabs.alloc ?_ _)))); rintro e w94 ⟨rfl, hb⟩; have n0_ := Aside0.mk (below_step (by repeat (first | (with_reducible first | exact HB.out | apply below_alloc | apply pw_below_drewN | apply below_drew1) | exact HB.out)) hb); clear HB; have HB := n0_; clear n0_; (try clear hb); (try clear hb2); (try clear hk); (try clear hi)))
                  go_ret
                  exact ⟨by first | rfl | (simp [errW_none, errW_some] <;> rfl) | (simp [*, errW_none, errW_some] <;> rfl), by repeat (first | (with_reducible first | exact HB.out | apply below_alloc | apply pw_below_drewN | apply below_drew1) | exact HB.out)⟩
          · rw [if_neg c39] at H
            have c39b0 : (t251.toList == ([] : List UInt8)) = false := beq_eq_false_iff_ne.mpr c39
            have c39b1 : (t251.toList != ([] : List UInt8)) = true := bne_iff_ne.mpr c39
            by_cases c95 : t254 = true
            · subst c95
              have H1 : (if t252.toList = t249.toList then (if t253.toList = t250.toList then ((impl_PlainOk.f kj11 t245).bind fun t274 => (if t248 = true then (if (t274 == (t246.toList == ([] : List UInt8))) = true then (if t246.toList = ([] : List UInt8) then (some true) else ((impl_PlainOk.f kj11 t246).bind fun t275 => (if t275 = true then ((impl_PlainOk.f kj11 t247).bind fun t276 => (some t276)) else (some false)))) else (some false)) else (if (t274 == false) = true then (if t246.toList = ([] : List UInt8) then (some true) else ((impl_PlainOk.f kj11 t246).bind fun t277 => (if t277 = true then ((impl_PlainOk.f kj11 t247).bind fun t278 => (some t278)) else (some false)))) else (some false)))) else (some false)) else (some false)) = some r := by rw [if_pos rfl] at H; exact H
              clear H
              have H := H1
              clear H1
              by_cases c96 : t252.toList = t249.toList
              · rw [if_pos c96] at H
                have c96b0 : (t252.toList == t249.toList) = true := beq_iff_eq.mpr c96
                have c96b1 : (t252.toList != t249.toList) = false := bne_eq_false_iff_eq.mpr c96
                clear c96
                by_cases c97 : t253.toList = t250.toList
                · rw [if_pos c97] at H
                  have c97b0 : (t253.toList == t250.toList) = true := beq_iff_eq.mpr c97
                  have c97b1 : (t253.toList != t250.toList) = false := bne_eq_false_iff_eq.mpr c97
                  clear c97
                  replace H := Option.bind_eq_some_iff.mp H
                  obtain ⟨t274, A980, H⟩ := H
                  replace H : (if t248 = true then (if (t274 == (t246.toList == ([] : List UInt8))) = true then (if t246.toList = ([] : List UInt8) then (some true) else ((impl_PlainOk.f kj11 t246).bind fun t275 => (if t275 = true then ((impl_PlainOk.f kj11 t247).bind fun t276 => (some t276)) else (some false)))) else (some false)) else (if (t274 == false) = true then (if t246.toList = ([] : List UInt8) then (some true) else ((impl_PlainOk.f kj11 t246).bind fun t277 => (if t277 = true then ((impl_PlainOk.f kj11 t247).bind fun t278 => (some t278)) else (some false)))) else (some false))) = some r := H
                  have A98 := Aside0.mk A980
                  clear A980
                  by_cases c99 : t248 = true
                  · subst c99
                    have H1 : (if (t274 == (t246.toList == ([] : List UInt8))) = true then (if t246.toList = ([] : List UInt8) then (some true) else ((impl_PlainOk.f kj11 t246).bind fun t275 => (if t275 = true then ((impl_PlainOk.f kj11 t247).bind fun t276 => (some t276)) else (some false)))) else (some false)) = some r := by rw [if_pos rfl] at H; exact H
                    clear H
                    have H := H1
                    clear H1
                    by_cases c100 : (t274 == (t246.toList == ([] : List UInt8))) = true
                    · rw [if_pos c100] at H
                      have c100b0 : (t274 == (t246.toList == ([] : List UInt8))) = true := c100
                      (try (have c100b1 : decide (t274 = (t246.toList == ([] : List UInt8))) = true := by simpa using c100))
                      (try (have c100b2 : (t274 == (t246.toList == ([] : List UInt8))) = true := by simpa using c100))
                      clear c100
                      by_cases c101 : t246.toList = ([] : List UInt8)
                      · rw [if_pos c101] at H
                        have c101b0 : (t246.toList == ([] : List UInt8)) = true := beq_iff_eq.mpr c101
                        have c101b1 : (t246.toList != ([] : List UInt8)) = false := bne_eq_false_iff_eq.mpr c101
                        clear c101
                        obtain rfl := Option.some.inj H
                        rcases Bool.eq_false_or_eq_true (t246.toList == ([] : List UInt8)) with q1_ | q1_
                        all_goals
                          first
                            | exact absurd (Eq.trans (Eq.symm q1_) ‹(t246.toList == ([] : List UInt8)) = true›) (by decide)
                            | exact absurd (Eq.trans (Eq.symm q1_) ‹(t246.toList == ([] : List UInt8)) = false›) (by decide)
                            | (first | (have q2_ : t274 = true := by simpa [q1_] using c100b0) | (have q2_ : t274 = false := by simpa [q1_] using c100b0) | skip)
                              go_wp2_with (first | (go_at_call 33; (with_reducible refine (impl_PlainOk.calls kj11 t245 t274 _ ?tabs A98.out).mono ?_); (case tabs => first | exact Tabs.below HT.out (by repeat (first | (with_reducible first | exact HB.out | apply below_alloc | apply pw_below_drewN | apply below_drew1) | exact HB.out)) | (repeat (first | exact HT.out | (with_reducible refine Tabs.drewN ?_ _) | (with_reducible refine Tabs.drew ?_) | (with_reducible refine Tabs.alloc ?_ _)))); rintro e w102 ⟨rfl, hb⟩; have n0_ := Aside0.mk (below_step (by repeat (first | (with_reducible first | exact HB.out | apply below_alloc | apply pw_below_drewN | apply below_drew1) | exact HB.out)) hb); clear HB; have HB := n0_; clear n0_; (try clear hb); (try clear hb2); (try clear hk); (try clear hi)))
                              go_ret
                              exact ⟨by first | rfl | (simp [errW_none, errW_some] <;> rfl) | (simp [*, errW_none, errW_some] <;> rfl), by repeat (first | (with_reducible first | exact HB.out | apply below_alloc | apply pw_below_drewN | apply below_drew1) | exact HB.out)⟩
                      · rw [if_neg c101] at H
                        have c101b0 : (t246.toList == ([] : List UInt8)) = false := beq_eq_false_iff_ne.mpr c101
                        have c101b1 : (t246.toList != ([] : List UInt8)) = true := bne_iff_ne.mpr c101
                        replace H := Option.bind_eq_some_iff.mp H
                        obtain ⟨t275, A1030, H⟩ := H
                        replace H : (if t275 = true then ((impl_PlainOk.f kj11 t247).bind fun t276 => (some t276)) else (some false)) = some r := H
                        have A103 := Aside0.mk A1030
                        clear A1030
                        by_cases c104 : t275 = true
                        · subst c104
                          have H1 : ((impl_PlainOk.f kj11 t247).bind fun t276 => (some t276)) = some r := by rw [if_pos rfl] at H; exact H
                          clear H
                          have H := H1
                          clear H1
                          replace H := Option.bind_eq_some_iff.mp H
                          obtain ⟨t276, A1050, H⟩ := H
                          replace H : (some t276) = some r := H
                          have A105 := Aside0.mk A1050
                          clear A1050
                          obtain rfl := Option.some.inj H
                          rcases Bool.eq_false_or_eq_true (t246.toList == ([] : List UInt8)) with q1_ | q1_
                          all_goals
                            first
                              | exact absurd (Eq.trans (Eq.symm q1_) ‹(t246.toList == ([] : List UInt8)) = true›) (by decide)
                              | exact absurd (Eq.trans (Eq.symm q1_) ‹(t246.toList == ([] : List UInt8)) = false›) (by decide)
                              | (first | (have q2_ : t274 = true := by simpa [q1_] using c100b0) | (have q2_ : t274 = false := by simpa [q1_] using c100b0) | skip)
                                go_wp2_with (first | (go_at_call 33; (with_reducible refine (impl_PlainOk.calls kj11 t245 t274 _ ?tabs A98.out).mono ?_); (case tabs => first | exact Tabs.below HT.out (by repeat (first | (with_reducible first | exact HB.out | apply below_alloc | apply pw_below_drewN | apply below_drew1) | exact HB.out)) | (repeat (first | exact HT.out | (with_reducible refine Tabs.drewN ?_ _) | (with_reducible refine Tabs.drew ?_) | (with_reducible refine Tabs.alloc ?_ _)))); rintro e w106 ⟨rfl, hb⟩; have n0_ := Aside0.mk (below_step (by repeat (first | (with_reducible first | exact HB.out | apply below_alloc | apply pw_below_drewN | apply below_drew1) | exact HB.out)) hb); clear HB; have HB := n0_; clear n0_; (try clear hb); (try clear hb2); (try clear hk); (try clear hi)) | (go_at_call 33; (with_reducible refine (impl_PlainOk.calls kj11 t246 true _ ?tabs A103.out).mono ?_); (case tabs => first | exact Tabs.below HT.out (by repeat (first | (with_reducible first | exact HB.out | apply below_alloc | apply pw_below_drewN | apply below_drew1) | exact HB.out)) | (repeat (first | exact HT.out | (with_reducible refine Tabs.drewN ?_ _) | (with_reducible refine Tabs.drew ?_) | (with_reducible refine Tabs.alloc ?_ _)))); rintro e w107 ⟨rfl, hb⟩; have n0_ := Aside0.mk (below_step (by repeat (first | (with_reducible first | exact HB.out | apply below_alloc | apply pw_below_drewN | apply below_drew1) | exact HB.out)) hb); clear HB; have HB := n0_; clear n0_; (try clear hb); (try clear hb2); (try clear hk); (try clear hi)) | (go_at_call 33; (with_reducible refine (impl_PlainOk.calls kj11 t247 t276 _ ?tabs A105.out).mono ?_); (case tabs => first | exact Tabs.below HT.out (by repeat (first | (with_reducible first | exact HB.out | apply below_alloc | apply pw_below_drewN | apply below_drew1) | exact HB.out)) | (repeat (first | exact HT.out | (with_reducible refine Tabs.drewN ?_ _) | (with_reducible refine Tabs.drew ?_) | (with_reducible refine Tabs.alloc ?_ _)))); rintro e w108 ⟨rfl, hb⟩; have n0_ := Aside0.mk (below_step (by repeat (first | (with_reducible first | exact HB.out | apply below_alloc | apply pw_below_drewN | apply below_drew1) | exact HB.out)) hb); clear HB; have HB := n0_; clear n0_; (try clear hb); (try clear hb2); (try clear hk); (try clear hi)))
                                go_ret
                                exact ⟨by first | rfl | (simp [errW_none, errW_some] <;> rfl) | (simp [*, errW_none, errW_some] <;> rfl), by repeat (first | (with_reducible first | exact HB.out | apply below_alloc | apply pw_below_drewN | apply below_drew1) | exact HB.out)⟩
                        · replace c104 := Bool.eq_false_iff.mpr c104
                          subst c104
                          have H1 : (some false) = some r := by rw [if_neg (show ¬ (false = true) by decide)] at H; exact H
                          clear H
                          have H := H1
                          clear H1
                          obtain rfl := Option.some.inj H
                          rcases Bool.eq_false_or_eq_true (t246.toList == ([] : List UInt8)) with q1_ | q1_
                          all_goals
                            first
                              | exact absurd (Eq.trans (Eq.symm q1_) ‹(t246.toList == ([] : List UInt8)) = true›) (by decide)
                              | exact absurd (Eq.trans (Eq.symm q1_) ‹(t246.toList == ([] : List UInt8)) = false›) (by decide)
                              | (first | (have q2_ : t274 = true := by simpa [q1_] using c100b0) | (have q2_ : t274 = false := by simpa [q1_] using c100b0) | skip)
                                go_wp2_with (first | (go_at_call 33; (with_reducible refine (impl_PlainOk.calls kj11 t245 t274 _ ?tabs A98.out).mono ?_); (case tabs => first | exact Tabs.below HT.out (by repeat (first | (with_reducible first | exact HB.out | apply below_alloc | apply pw_below_drewN | apply below_drew1) | exact HB.out)) | (repeat (first | exact HT.out | (with_reducible refine Tabs.drewN ?_ _) | (with_reducible refine Tabs.drew ?_) | (with_reducible refine Tabs.alloc ?_ _)))); rintro e w109 ⟨rfl, hb⟩; have n0_ := Aside0.mk (below_step (by repeat (first | (with_reducible first | exact HB.out | apply below_alloc | apply pw_below_drewN | apply below_drew1) | exact HB.out)) hb); clear HB; have HB := n0_; clear n0_; (try clear hb); (try clear hb2); (try clear hk); (try clear hi)) | (go_at_call 33; (with_reducible refine (impl_PlainOk.calls kj11 t246 false _ ?tabs A103.out).mono ?_); (case tabs => first | exact Tabs.below HT.out (by repeat (first | (with_reducible first | exact HB.out | apply below_alloc | apply pw_below_drewN | apply below_drew1) | exact HB.out)) | (repeat (first | exact HT.out | (with_reducible refine Tabs.drewN ?_ _) | (with_reducible refine Tabs.drew ?_) | (with_reducible refine Tabs.alloc ?_ _)))); rintro e w110 ⟨rfl, hb⟩; have n0_ := Aside0.mk (below_step (by repeat (first | (with_reducible first | exact HB.out | apply below_alloc | apply pw_below_drewN | apply below_drew1) | exact HB.out)) hb); clear HB; have HB := n0_; clear n0_; (try clear hb); (try clear hb2); (try clear hk); (try clear hi)))
                                go_ret
                                exact ⟨by first | rfl | (simp [errW_none, errW_some] <;> rfl) | (simp [*, errW_none, errW_some] <;> rfl), by repeat (first | (with_reducible first | exact HB.out | apply below_alloc | apply pw_below_drewN | apply below_drew1) | exact HB.out)⟩
                    · rw [if_neg c100] at H
                      have c100b0 : (t274 == (t246.toList == ([] : List UInt8))) = false := by simpa using c100
                      (try (have c100b1 : decide (t274 = (t246.toList == ([] : List UInt8))) = false := by simpa using c100))
                      (try (have c100b2 : (t274 == (t246.toList == ([] : List UInt8))) = false := by simpa using c100))
                      (try (have c100b3 : ¬ (t274 = (t246.toList == ([] : List UInt8))) := by simpa using c100))
                      clear c100
                      obtain rfl := Option.some.inj H
                      rcases Bool.eq_false_or_eq_true (t246.toList == ([] : List UInt8)) with q1_ | q1_
                      all_goals
                        first
                          | exact absurd (Eq.trans (Eq.symm q1_) ‹(t246.toList == ([] : List UInt8)) = true›) (by decide)
                          | exact absurd (Eq.trans (Eq.symm q1_) ‹(t246.toList == ([] : List UInt8)) = false›) (by decide)
                          | (first | (have q2_ : t274 = true := by simpa [q1_] using c100b0) | (have q2_ : t274 = false := by simpa [q1_] using c100b0) | skip)
                            go_wp2_with (first | (go_at_call 33; (with_reducible refine (impl_PlainOk.calls kj11 t245 t274 _ ?tabs A98.out).mono ?_); (case tabs => first | exact Tabs.below HT.out (by repeat (first | (with_reducible first | exact HB.out | apply below_alloc | apply pw_below_drewN | apply below_drew1) | exact HB.out)) | (repeat (first | exact HT.out | (with_reducible refine Tabs.drewN ?_ _) | (with_reducible refine Tabs.drew ?_) | (with_reducible refine Tabs.alloc ?_ _)))); rintro e w111 ⟨rfl, hb⟩; have n0_ := Aside0.mk (below_step (by repeat (first | (with_reducible first | exact HB.out | apply below_alloc | apply pw_below_drewN | apply below_drew1) | exact HB.out)) hb); clear HB; have HB := n0_; clear n0_; (try clear hb); (try clear hb2); (try clear hk); (try clear hi)))
                            go_ret
                            exact ⟨by first | rfl | (simp [errW_none, errW_some] <;> rfl) | (simp [*, errW_none, errW_some] <;> rfl), by repeat (first | (with_reducible first | exact HB.out | apply below_alloc | apply pw_below_drewN | apply below_drew1) | exact HB.out)⟩
                  · replace c99 := Bool.eq_false_iff.mpr c99
                    subst c99
                    have H1 : (if (t274 == false) = true then (if t246.toList = ([] : List UInt8) then (some true) else ((impl_PlainOk.f kj11 t246).bind fun t277 => (if t277 = true then ((impl_PlainOk.f kj11 t247).bind fun t278 => (some t278)) else (some false)))) else (some false)) = some r := by rw [if_neg (show ¬ (false = true) by decide)] at H; exact H
                    clear H
                    have H := H1
                    clear H1
                    by_cases c112 : (t274 == false) = true
                    · rw [if_pos c112] at H
                      have c112b0 : (t274 == false) = true := c112
                      (try (have c112b1 : decide (t274 = false) = true := by simpa using c112))
                      (try (have c112b2 : (t274 == false) = true := by simpa using c112))
                      clear c112
                      by_cases c113 : t246.toList = ([] : List UInt8)
                      · rw [if_pos c113] at H
                        have c113b0 : (t246.toList == ([] : List UInt8)) = true := beq_iff_eq.mpr c113
                        have c113b1 : (t246.toList != ([] : List UInt8)) = false := bne_eq_false_iff_eq.mpr c113
                        clear c113
                        obtain rfl := Option.some.inj H
                        go_wp2_with (first | (go_at_call 33; (with_reducible refine (impl_PlainOk.calls kj11 t245 t274 _ ?tabs A98.out).mono ?_); (case tabs => first | exact Tabs.below HT.out (by repeat (first | (with_reducible first | exact HB.out | apply below_alloc | apply pw_below_drewN | apply below_drew1) | exact HB.out)) | (repeat (first | exact HT.out | (with_reducible refine Tabs.drewN ?_ _) | (with_reducible refine Tabs.drew ?_) | (with_reducible refine Tabs.alloc ?_ _)))); rintro e w114 ⟨rfl, hb⟩; have n0_ := Aside0.mk (below_step (by repeat (first | (with_reducible first | exact HB.out | apply below_alloc | apply pw_below_drewN | apply below_drew1) | exact HB.out)) hb); clear HB; have HB := n0_; clear n0_; (try clear hb); (try clear hb2); (try clear hk); (try clear hi)))
                        go_ret
                        exact ⟨by first | rfl | (simp [errW_none, errW_some] <;> rfl) | (simp [*, errW_none, errW_some] <;> rfl), by repeat (first | (with_reducible first | exact HB.out | apply below_alloc | apply pw_below_drewN | apply below_drew1) | exact HB.out)⟩
                      · rw [if_neg c113] at H
                        have c113b0 : (t246.toList == ([] : List UInt8)) = false := beq_eq_false_iff_ne.mpr c113
                        have c113b1 : (t246.toList != ([] : List UInt8)) = true := bne_iff_ne.mpr c113
                        replace H := Option.bind_eq_some_iff.mp H
                        obtain ⟨t277, A1150, H⟩ := H
                        replace H : (if t277 = true then ((impl_PlainOk.f kj11 t247).bind fun t278 => (some t278)) else (some false)) = some r := H
                        have A115 := Aside0.mk A1150
                        clear A1150
                        by_cases c116 : t277 = true
                        · subst c116
                          have H1 : ((impl_PlainOk.f kj11 t247).bind fun t278 => (some t278)) = some r := by rw [if_pos rfl] at H; exact H
                          clear H
                          have H := H1
                          clear H1
                          replace H := Option.bind_eq_some_iff.mp H
                          obtain ⟨t278, A1170, H⟩ := H
                          replace H : (some t278) = some r := H
                          have A117 := Aside0.mk A1170
                          clear A1170
                          obtain rfl := Option.some.inj H
                          go_wp2_with (first | (go_at_call 33; (with_reducible refine (impl_PlainOk.calls kj11 t245 t274 _ ?tabs A98.out).mono ?_); (case tabs => first | exact Tabs.below HT.out (by repeat (first | (with_reducible first | exact HB.out | apply below_alloc | apply pw_below_drewN | apply below_drew1) | exact HB.out)) | (repeat (first | exact HT.out | (with_reducible refine Tabs.drewN ?_ _) | (with_reducible refine Tabs.drew ?_) | (with_reducible refine Tabs.alloc ?_ _)))); rintro e w118 ⟨rfl, hb⟩; have n0_ := Aside0.mk (below_step (by repeat (first | (with_reducible first | exact HB.out | apply below_alloc | apply pw_below_drewN | apply below_drew1) | exact HB.out)) hb); clear HB; have HB := n0_; clear n0_; (try clear hb); (try clear hb2); (try clear hk); (try clear hi)) | (go_at_call 33; (with_reducible refine (impl_PlainOk.calls kj11 t246 true _ ?tabs A115.out).mono ?_); (case tabs => first | exact Tabs.below HT.out (by repeat (first | (with_reducible first | exact HB.out | apply below_alloc | apply pw_below_drewN | apply below_drew1) | exact HB.out)) | (repeat (first | exact HT.out | (with_reducible refine Tabs.drewN ?_ _) | (with_reducible refine Tabs.drew ?_) | (with_reducible refine Tabs.alloc ?_ _)))); rintro e w119 ⟨rfl, hb⟩; have n0_ := Aside0.mk (below_step (by repeat (first | (with_reducible first | exact HB.out | apply below_alloc | apply pw_below_drewN | apply below_drew1) | exact HB.out)) hb); clear HB; have HB := n0_; clear n0_; (try clear hb); (try clear hb2); (try clear hk); (try clear hi)) | (go_at_call 33; (with_reducible refine (impl_PlainOk.calls kj11 t247 t278 _ ?tabs A117.out).mono ?_); (case tabs => first | exact Tabs.below HT.out (by repeat (first | (with_reducible first | exact HB.out | apply below_alloc | apply pw_below_drewN | apply below_drew1) | exact HB.out)) | (repeat (first | exact HT.out | (with_reducible refine Tabs.drewN ?_ _) | (with_reducible refine Tabs.drew ?_) | (with_reducible refine Tabs.alloc ?_ _)))); rintro e w120 ⟨rfl, hb⟩; have n0_ := Aside0.mk (below_step (by repeat (first | (with_reducible first | exact HB.out | apply below_alloc | apply pw_below_drewN | apply below_drew1) | exact HB.out)) hb); clear HB; have HB := n0_; clear n0_; (try clear hb); (try clear hb2); (try clear hk); (try clear hi)))
                          go_ret
                          exact ⟨by first | rfl | (simp [errW_none, errW_some] <;> rfl) | (simp [*, errW_none, errW_some] <;> rfl), by repeat (first | (with_reducible first | exact HB.out | apply below_alloc | apply pw_below_drewN | apply below_drew1) | exact HB.out)⟩
                        · replace c116 := Bool.eq_false_iff.mpr c116
                          subst c116
                          have H1 : (some false) = some r := by rw [if_neg (show ¬ (false = true) by decide)] at H; exact H
                          clear H
                          have H := H1
                          clear H1
                          obtain rfl := Option.some.inj H
                          go_wp2_with (first | (go_at_call 33; (with_reducible refine (impl_PlainOk.calls kj11 t245 t274 _ ?tabs A98.out).mono ?_); (case tabs => first | exact Tabs.below HT.out (by repeat (first | (with_reducible first | exact HB.out | apply below_alloc | apply pw_below_drewN | apply below_drew1) | exact HB.out)) | (repeat (first | exact HT.out | (with_reducible refine Tabs.drewN ?_ _) | (with_reducible refine Tabs.drew ?_) | (with_reducible refine Tabs.alloc ?_ _)))); rintro e w121 ⟨rfl, hb⟩; have n0_ := Aside0.mk (below_step (by repeat (first | (with_reducible first | exact HB.out | apply below_alloc | apply pw_below_drewN | apply below_drew1) | exact HB.out)) hb); clear HB; have HB := n0_; clear n0_; (try clear hb); (try clear hb2); (try clear hk); (try clear hi)) | (go_at_call 33; (with_reducible refine (impl_PlainOk.calls kj11 t246 false _ ?tabs A115.out).mono ?_); (case tabs => first | exact Tabs.below HT.out (by repeat (first | (with_reducible first | exact HB.out | apply below_alloc | apply pw_below_drewN | apply below_drew1) | exact HB.out)) | (repeat (first | exact HT.out | (with_reducible refine Tabs.drewN ?_ _) | (with_reducible refine Tabs.drew ?_) | (with_reducible refine Tabs.alloc ?_ _)))); rintro e w122 ⟨rfl, hb⟩; have n0_ := Aside0.mk (below_step (by repeat (first | (with_reducible first | exact HB.out | apply below_alloc | apply pw_below_drewN | apply below_drew1) | exact HB.out)) hb); clear HB; have HB := n0_; clear n0_; (try clear hb); (try clear hb2); (try clear hk); (try clear hi)))
                          go_ret
                          exact ⟨by first | rfl | (simp [errW_none, errW_some] <;> rfl) | (simp [*, errW_none, errW_some] <;> rfl), by repeat (first | (with_reducible first | exact HB.out | apply below_alloc | apply pw_below_drewN | apply below_drew1) | exact HB.out)⟩
                    · rw [if_neg c112] at H
                      have c112b0 : (t274 == false) = false := by simpa using c112
                      (try (have c112b1 : decide (t274 = false) = false := by simpa using c112))
                      (try (have c112b2 : (t274 == false) = false := by simpa using c112))
                      (try (have c112b3 : ¬ (t274 = false) := by simpa using c112))
                      clear c112
                      obtain rfl := Option.some.inj H
                      go_wp2_with (first | (go_at_call 33; (with_reducible refine (impl_PlainOk.calls kj11 t245 t274 _ ?tabs A98.out).mono ?_); (case tabs => first | exact Tabs.below HT.out (by repeat (first | (with_reducible first | exact HB.out | apply below_alloc | apply pw_below_drewN | apply below_drew1) | exact HB.out)) | (repeat (first | exact HT.out | (with_reducible refine Tabs.drewN ?_ _) | (with_reducible refine Tabs.drew ?_) | (with_reducible refine Tabs.alloc ?_ _)))); rintro e w123 ⟨rfl, hb⟩; have n0_ := Aside0.mk (below_step (by repeat (first | (with_reducible first | exact HB.out | apply below_alloc | apply pw_below_drewN | apply below_drew1) | exact HB.out)) hb); clear HB; have HB := n0_; clear n0_; (try clear hb); (try clear hb2); (try clear hk); (try clear hi)))
                      go_ret
                      exact ⟨by first | rfl | (simp [errW_none, errW_some] <;> rfl) | (simp [*, errW_none, errW_some] <;> rfl), by repeat (first | (with_reducible first | exact HB.out | apply below_alloc | apply pw_below_drewN | apply below_drew1) | exact HB.out)⟩
                · rw [if_neg c97] at H
                  have c97b0 : (t253.toList == t250.toList) = false := beq_eq_false_iff_ne.mpr c97
                  have c97b1 : (t253.toList != t250.toList) = true := bne_iff_ne.mpr c97
                  obtain rfl := Option.some.inj H
                  go_wp2
                  go_ret
                  exact ⟨by first | rfl | (simp [errW_none, errW_some] <;> rfl) | (simp [*, errW_none, errW_some] <;> rfl), by repeat (first | (with_reducible first | exact HB.out | apply below_alloc | apply pw_below_drewN | apply below_drew1) | exact HB.out)⟩
              · rw [if_neg c96] at H
                have c96b0 : (t252.toList == t249.toList) = false := beq_eq_false_iff_ne.mpr c96
                have c96b1 : (t252.toList != t249.toList) = true := bne_iff_ne.mpr c96
                obtain rfl := Option.some.inj H
                go_wp2
                go_ret
                exact ⟨by first | rfl | (simp [errW_none, errW_some] <;> rfl) | (simp [*, errW_none, errW_some] <;> rfl), by repeat (first | (with_reducible first | exact HB.out | apply below_alloc | apply pw_below_drewN | apply below_drew1) | exact HB.out)⟩
            · replace c95 := Bool.eq_false_iff.mpr c95
              subst c95
              have H1 : (some false) = some r := by rw [if_neg (show ¬ (false = true) by decide)] at H; exact H
              clear H
              have H := H1
              clear H1
              obtain rfl := Option.some.inj H
              go_wp2
              go_ret
              exact ⟨by first | rfl | (simp [errW_none, errW_some] <;> rfl) | (simp [*, errW_none, errW_some] <;> rfl), by repeat (first | (with_reducible first | exact HB.out | apply below_alloc | apply pw_below_drewN | apply below_drew1) | exact HB.out)⟩

end Go.Proofs.YtgchgcfjbjopkaaDoor.PM
