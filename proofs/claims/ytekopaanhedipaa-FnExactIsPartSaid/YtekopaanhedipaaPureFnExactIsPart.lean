/- The program's IsPart and the reference's answer alike at every number.
Conditions: none. -/
import Derived.Test.YtekopaanhedipaaPZx2
namespace Go.Proofs.Ytekopaanhedipaa.Pure
open Go.RowKit Go.Proofs.Ytekopaanhedipaa.PZ Go.Proofs.YtekopaanhedipaaW.PrintWords Go.Proofs.YtekopaanhedipaaW.PrintLast
set_option linter.unusedVariables false
set_option linter.unusedSimpArgs false

namespace FnExactIsPart_
theorem w64 {i : Int} (h0 : -9223372036854775808 ≤ i) (h1 : i ≤ 9223372036854775807) : wrap64 i = i := by unfold wrap64; omega
def inR (n : Int) (p : Int × Int) : Bool := decide (p.1 ≤ n) && decide (n ≤ p.2)
theorem l1In_f (n lo hi : Int) : spec_l1In.f n lo hi = some (inR n (lo, hi)) := by
  unfold spec_l1In.f inR
  by_cases h : n ≥ lo
  · rw [if_pos h]
    simp [h]
  · rw [if_neg h]
    have : ¬ lo ≤ n := h
    simp [this]
def flat2 (zs : List (Int × Int)) : List Int := zs.flatMap fun p => [p.1, p.2]
theorem flat2_length (zs : List (Int × Int)) : (flat2 zs).length = 2 * zs.length := by
  induction zs with
  | nil => rfl
  | cons p zs ih => simp only [flat2, List.flatMap_cons, List.length_append, List.length_cons, List.length_nil] at ih ⊢; omega
theorem flat2_get (zs : List (Int × Int)) : ∀ (j : Nat) (p : Int × Int), zs[j]? = some p → (flat2 zs)[2 * j]? = some p.1 ∧ (flat2 zs)[2 * j + 1]? = some p.2 := by
  induction zs with
  | nil => intro j p h; simp at h
  | cons q zs ih =>
    intro j p h
    cases j with
    | zero =>
      simp at h
      subst h
      simp [flat2]
    | succ j =>
      have := ih j p (by simpa using h)
      simp only [flat2, List.flatMap_cons] at this ⊢
      rw [List.getElem?_append_right (by simp; omega), List.getElem?_append_right (by simp; omega)]
      have e1 : 2 * (j + 1) - [q.1, q.2].length = 2 * j := by simp; omega
      have e2 : 2 * (j + 1) + 1 - [q.1, q.2].length = 2 * j + 1 := by simp; omega
      rw [e1, e2]
      exact this
theorem ranges_l (n : Int) (zs : List (Int × Int)) (hz : zs.length ≤ 1000) (d : Nat) : ∀ j : Nat, j ≤ zs.length → zs.length - j = d →
    Ev (fun k => spec_l1Ranges.l0 k n (flat2 zs) ((2 * j : Nat) : Int)) ((zs.drop j).any (inR n)) := by
  have hlen := flat2_length zs
  induction d with
  | zero =>
    intro j hj hd
    have e : zs.drop j = [] := List.drop_eq_nil_of_le (by omega)
    rw [e]
    refine Ev.step (fun k => ?_) (Ev.now _)
    simp only [spec_l1Ranges.l0]
    rw [if_neg (by rw [w64 (by omega) (by omega)]; omega)]
    rfl
  | succ d ih =>
    intro j hj hd
    have hlt : j < zs.length := by omega
    obtain ⟨g1, g2⟩ := flat2_get zs j zs[j] (List.getElem?_eq_getElem hlt)
    have r1 : rd (flat2 zs) ((2 * j : Nat) : Int) = zs[j].1 := by simp only [rd, Int.toNat_natCast, List.getD_eq_getElem?_getD, g1, Option.getD_some]
    have r2 : rd (flat2 zs) (((2 * j : Nat) : Int) + 1) = zs[j].2 := by
      have e : (((2 * j : Nat) : Int) + 1).toNat = 2 * j + 1 := by omega
      simp only [rd, e, List.getD_eq_getElem?_getD, g2, Option.getD_some]
    have e : zs.drop j = zs[j] :: zs.drop (j + 1) := List.drop_eq_getElem_cons hlt
    rw [e, List.any_cons]
    have hs : ∀ k, spec_l1Ranges.l0 (k + 1) n (flat2 zs) ((2 * j : Nat) : Int) = if inR n zs[j] = true then some true else spec_l1Ranges.l0 k n (flat2 zs) ((2 * (j + 1) : Nat) : Int) := fun k => by
      simp only [spec_l1Ranges.l0]
      rw [w64 (by omega) (by omega), if_pos (by omega), if_pos (by omega), if_pos (by omega), if_pos (by omega), r1, r2, l1In_f]
      simp only [Option.bind_some]
      rw [w64 (by omega) (by omega)]
      rfl
    cases hq : inR n zs[j] with
    | true =>
      refine Ev.step (fun k => ?_) (Ev.now _)
      rw [hs, hq, if_pos rfl]
      rfl
    | false =>
      refine Ev.step (fun k => ?_) (ih (j + 1) (by omega) (by omega))
      rw [hs, hq, if_neg (by simp)]
theorem ranges_f (n : Int) (zs : List (Int × Int)) (hz : zs.length ≤ 1000) (l : List Int) (hl : l = flat2 zs) : Ev (fun k => spec_l1Ranges.f k n l) (zs.any (inR n)) := by
  subst hl
  exact Ev.congr (fun k => by simp [spec_l1Ranges.f]) (ranges_l n zs hz zs.length 0 (by omega) (by omega))
theorem IsStart_f (n : Int) : Ev (fun k => spec_IsStart.f k n) (impl_IsStart.l.any (inR n)) := by
  refine Ev.congr (g := fun k => spec_IsStart.f k n) (f := fun k => (spec_l1Ranges.f k n (flat2 impl_IsStart.l)).bind fun t => some t) (fun k => ?_) (Ev.bind (ranges_f n impl_IsStart.l (by decide) _ rfl) (Ev.now _))
  rfl
theorem IsPart_f (n : Int) : Ev (fun k => spec_IsPart.f k n) (impl_IsStart.l.any (inR n) || impl_IsPart.l.any (inR n)) := by
  refine Ev.congr (g := fun k => spec_IsPart.f k n) (f := fun k => (spec_IsStart.f k n).bind fun t => if t = true then some true else (spec_l1Ranges.f k n (flat2 impl_IsPart.l)).bind fun t => some t) (fun k => rfl) (Ev.bind (IsStart_f n) ?_)
  cases impl_IsStart.l.any (inR n) with
  | true => exact Ev.congr (fun k => by rw [if_pos rfl]; rfl) (Ev.now _)
  | false => exact Ev.congr (fun k => by rw [if_neg (by simp)]) (Ev.bind (ranges_f n impl_IsPart.l (by decide) _ rfl) (Ev.now _))
theorem FnExactIsPart : laws_FnExactIsPart.Pure := by
  intro n _
  obtain ⟨k, hk⟩ := Ev.rounds (IsPart_f n)
  refine ⟨k, ?_⟩
  unfold laws_FnExactIsPart.f
  rw [hk]
  have e : impl_IsPart.f n = some (impl_IsStart.l.any (inR n) || impl_IsPart.l.any (inR n)) := rfl
  rw [e]
  simp

end FnExactIsPart_
theorem FnExactIsPart : laws_FnExactIsPart.Pure := FnExactIsPart_.FnExactIsPart
end Go.Proofs.Ytekopaanhedipaa.Pure
