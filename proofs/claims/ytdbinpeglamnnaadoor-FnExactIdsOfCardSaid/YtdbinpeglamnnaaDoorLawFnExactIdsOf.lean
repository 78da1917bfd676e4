/- The law FnExactIdsOf holds at every input: its row, out of its pure statement and its walk.
Conditions: none. -/
import Derived.Test.YtdbinpeglamnnaaDoorRows
import Derived.Test.YtdbinpeglamnnaaDoorSaidFnExactIdsOf
import Derived.Test.YtdbinpeglamnnaaDoorPureFnExactIdsOf
import Derived.WalkKit
import Derived.ProofKit
import Derived.OpenShut
import Derived.ShutString
import Derived.ChangeOld
import Derived.Below
import Derived.SizedLaws
import Derived.Lib.SmallJoins
import Derived.Test.YtdbinpeglamnnaaDoorStart
import Derived.Test.YtdbinpeglamnnaaDoorTie
import Derived.Test.YtdbinpeglamnnaaDoorCards
import Derived.SevenTiedAt
namespace Go.Proofs.YtdbinpeglamnnaaDoor.fnExactIdsOf
open Go.ChangeShapes Go.WideShapes Go.ChangeAt Go.RowKit
open Go.ChangeMaps (open_string shut_string)
open Go.Proofs.YtdbinpeglamnnaaDoor.PI Go.Proofs.YtdbinpeglamnnaaDoorW.PrintWords
set_option linter.unusedVariables false
theorem own : ownKnob Tryd.prog.godebug = none := by kernel_rfl
theorem laidOut : laidOutB Tryd.prog = true := by kernel_rfl
set_option maxRecDepth 100000 in
theorem lifted (os : Os) (started : os.Started) (H : Type) (enc : TypeId × Value → H) :
    ReturnsInHanded {} Tryd.checked os 3 .any (fun w args => (Rows.fnExactIdsOfSpec.pre enc Tryd.prog Tryd.f3 [] false w args ∧ laidMetH Tryd.prog Start.laid2 w) ∧ sizedMet enc Tryd.prog Tryd.f3 (OpenSpec.ofChange Rows.fnExactIdsOfSpec) false w args)
      (Rows.fnExactIdsOfSpec.post enc Tryd.prog Tryd.f3 false true false false) := by
  refine Start.returnsIn (C := Tryd.checked) (X := fun w _ => laidMetH Tryd.prog Start.laid2 w) (fun _ _ _ hh h => h.of_heap hh) own started (by kernel_rfl) Tryd.func3
    (ChangeSpec.witness_shaped (enc := enc) (C := Tryd.checked) (os := os) (X := fun w _ => laidMetH Tryd.prog Start.laid2 w) false (Start.laidWorld os) #[.agg #[.int .i64 0, .string ByteArray.empty, .string ByteArray.empty, .string ByteArray.empty, .slice none 0 0, .slice none 0 0, .slice none 0 0, .string ByteArray.empty], .agg #[.string ByteArray.empty, .slice none 0 0, .slice none 0 0]] 8 (Start.laidWorld_os _) (World.shaped_of_ZipB (by kernel_rfl) (by kernel_rfl)) (by kernel_rfl) (by kernel_rfl) (by kernel_rfl) (Start.met os _)) ?_
  intro W base args ds gs before hval0 hW hL hsh
  have hTab := Start.tabs hL hsh
  have hval : ∀ (j : Nat) t v, Tryd.f3.params[j]? = some t → args[j]? = some v → Value.okWide Tryd.prog W .any base t v := hval0
  have hW' := hW
  obtain ⟨p, q, hA0, hV, rfl, hfz, hnd⟩ := hW
  have hA : DataW.TrodAll enc Tryd.prog W 0 (fun _ => true) true Tryd.f3.params.toList args.toList ds p := hA0
  rw [Tryd.params3] at hA hval
  obtain ⟨v0, vs0, d0, ds0, p0, q0, hargs, rfl, rfl, h0, r0⟩ := trodAll_cons hA
  obtain ⟨v1, vs1, d1, ds1, p1, q1, rfl, rfl, rfl, h1, r1⟩ := trodAll_cons r0
  obtain ⟨rfl, rfl, rfl⟩ := trodAll_nil r1
  obtain rfl : args = #[v0, v1] := by cases args; simp_all
  obtain ⟨rfl, rfl⟩ := trodVars_none hV
  obtain ⟨cs0, rfl, hz0⟩ := okWide_struct Tryd.underlying26 (hval 0 26 v0 rfl rfl)
  have k0 := h0
  have lt0 : ∀ x ∈ p0, x.block < W.heap.size := by obtain ⟨m, hm⟩ := k0; exact DataW.trod_lt m _ _ _ hm
  obtain ⟨fuel0, hf0⟩ := h0
  obtain ⟨x0, hK0, w0⟩ := open_T26 _ _ _ hf0
  have hcs0 := k26_open hK0
  simp only [Value.cells] at hcs0
  obtain ⟨A0_4, c0_4, A0_5, c0_5, A0_6, c0_6, hcs0, hc0_4, hr0_4, hc0_5, hr0_5, hc0_6, hr0_6⟩ := hcs0
  obtain rfl : cs0 = #[.int .i64 x0.f0, .string x0.f1, .string x0.f2, .string x0.f3, .slice A0_4 x0.f4.length c0_4, .slice A0_5 x0.f5.length c0_5, .slice A0_6 x0.f6.length c0_6, .string x0.f7] := by cases cs0; simp_all
  obtain ⟨cs1, rfl, hz1⟩ := okWide_struct Tryd.underlying30 (hval 1 30 v1 rfl rfl)
  have k1 := h1
  have lt1 : ∀ x ∈ p1, x.block < W.heap.size := by obtain ⟨m, hm⟩ := k1; exact DataW.trod_lt m _ _ _ hm
  obtain ⟨fuel1, hf1⟩ := h1
  obtain ⟨x1, hK1, w1⟩ := open_T30 _ _ _ hf1
  have hcs1 := k30_open hK1
  simp only [Value.cells] at hcs1
  obtain ⟨A1_1, c1_1, A1_2, c1_2, hcs1, hc1_1, hr1_1, hc1_2, hr1_2⟩ := hcs1
  obtain rfl : cs1 = #[.string x1.f0, .slice A1_1 x1.f1.length c1_1, .slice A1_2 x1.f2.length c1_2] := by cases cs1; simp_all
  clear hA0 hval0
  refine (laws_FnExactIdsOf.walk Pure.FnExactIdsOf x0 _ _ _ _ _ _ x1 _ _ _ _ W hTab hr0_4 hc0_4 hr0_5 hc0_5 hr0_6 hc0_6 hr1_1 hc1_1 hr1_2 hc1_2 w0 w1).mono fun e W' ⟨he, bel⟩ => ?_
  subst he
  exact ⟨_, rfl, _, _, _, [], _, [], hW', trodAll_mk1 (shut_bool Tryd.underlying4 _), (trodAll_cons_mk (Below.trod laidOut (by kernel_rfl) (of_decide_eq_true (by kernel_rfl)) k0 bel lt0) (trodAll_cons_mk (Below.trod laidOut (by kernel_rfl) (of_decide_eq_true (by kernel_rfl)) k1 bel lt1) trodAll_mk0)), rfl, bel.frame _, fun h => by cases h⟩
theorem over : Rows.fnExactIdsOfRow.holds Tryd.pinned (OpenSpec.ofChange Rows.fnExactIdsOfSpec) :=
  OpenClaim.holds_of_wide 3 Tryd.f3 rfl rfl rfl rfl rfl rfl rfl ⟨rfl, rfl, rfl, rfl, rfl⟩ rfl rfl rfl rfl rfl (by kernel_rfl) Tryd.func3 (by kernel_rfl)
    (of_decide_eq_true (by kernel_rfl)) (by unfold Func.isWrapper; first | (rw [if_pos (by decide +kernel)]; kernel_rfl) | (rw [if_neg (by decide +kernel)]; exact ⟨rfl, rfl⟩))
    (fun os started H enc _ => lifted os started H enc)
theorem proved : Rows.FnExactIdsOfCardSaid :=
  Claim7.holds_tied_plain_at .later [] [.data, .pinned] true (true, "5ea29ee569bd96ddf2c80f5b5d91487d55e2d070be3e18c1e7499535d8361f32") false
    over (fun _ h => by cases h) (by kernel_rfl) (fun _ h => by cases h) fnExactIdsOf_row_tie rfl ⟨rfl, rfl⟩ (by kernel_rfl) rfl
    (fun f fn hf hfn => by
      obtain rfl : f = 3 := Option.some.inj ((show Tryd.prog.funcNamed "loop.example/g00484/laws.FnExactIdsOf" = some 3 by kernel_rfl).symm.trans hf) |>.symm
      obtain rfl : fn = Tryd.f3 := (Option.some.inj (Tryd.func3.symm.trans hfn)).symm
      exact ⟨by kernel_rfl, fun j t ht => by
        rw [Tryd.params3] at ht
        have hm : t ∈ [26, 30] := by simpa using Array.mem_of_getElem? ht
        have hall : ([26, 30].all fun u => !Tryd.prog.wantsStandIn u) = true := by kernel_rfl
        exact (show Tryd.prog.wantsStandIn t = false by simpa using List.all_eq_true.1 hall t hm)⟩)
    (by kernel_rfl)
#print axioms proved
end Go.Proofs.YtdbinpeglamnnaaDoor.fnExactIdsOf
namespace Go.Proofs.YtdbinpeglamnnaaDoor
/-- The statement, under a short name, for the claim. -/
theorem fnExactIdsOf_holds : Rows.FnExactIdsOfCardSaid := fnExactIdsOf.proved
end Go.Proofs.YtdbinpeglamnnaaDoor
