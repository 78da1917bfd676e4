/- The program's SamePath (slices.Equal) and the reference's answer alike, at all two lists, and both leave them as they were.
Conditions: none. -/
import Derived.Test.YtekopaanhedipaaPZx4
namespace Go.Proofs.Ytekopaanhedipaa.Pure
open Go.RowKit Go.Proofs.Ytekopaanhedipaa.PZ Go.Proofs.YtekopaanhedipaaW.PrintWords Go.Proofs.YtekopaanhedipaaW.PrintLast
set_option linter.unusedVariables false
set_option linter.unusedSimpArgs false

namespace FnExactSamePath_
theorem w64 {i : Int} (h0 : -9223372036854775808 ≤ i) (h1 : i ≤ 9223372036854775807) : wrap64 i = i := by unfold wrap64; omega
theorem rd_nat (l : List Int) (i : Nat) : rd l (i : Int) = l.getD i 0 := by simp [rd]
theorem toIntS_l (l : List Int) (hl : l.length ≤ 1048576) (d : Nat) : ∀ (i : Nat) (x : List Int), x.length = l.length → (∀ j, j < i → x[j]? = l[j]?) → i ≤ l.length → l.length - i = d →
    Ev (fun k => laws_toIntS.l0 k l x (i : Int)) l := by
  induction d with
  | zero =>
    intro i x hx hj hi hd
    have e : x = l := List.ext_getElem? (fun j => by
      by_cases hlt : j < i
      · exact hj j hlt
      · rw [List.getElem?_eq_none (by omega), List.getElem?_eq_none (by omega)])
    refine Ev.step (fun k => ?_) (Ev.now l)
    simp only [laws_toIntS.l0]
    rw [if_neg (by omega), e]
  | succ d ih =>
    intro i x hx hj hi hd
    refine Ev.step (fun k => ?_) (ih (i + 1) (x.set i (l.getD i 0)) (by simp [hx]) ?_ (by omega) (by omega))
    · simp only [laws_toIntS.l0]
      rw [if_pos (by omega), if_pos (by omega), if_pos (by omega), rd_nat, w64 (by omega) (by omega)]
      simp
    · intro j hlt
      by_cases e : j = i
      · subst e
        rw [List.getElem?_set_self (by omega)]
        rw [List.getD_eq_getElem?_getD]
        rw [List.getElem?_eq_getElem (by omega)]
        simp
      · rw [List.getElem?_set_ne (by omega)]
        exact hj j (by omega)
theorem toIntS_f (l : List Int) (hl : l.length ≤ 1048576) : Ev (fun k => laws_toIntS.f k l) l := by
  refine Ev.congr (fun k => ?_) (toIntS_l l hl l.length 0 (List.replicate l.length 0) (by simp) (by intro j h; omega) (by omega) (by omega))
  simp only [laws_toIntS.f]
  rw [if_pos (by omega), if_pos (by omega)]
  simp
theorem eqIntS_l (l : List Int) (hl : l.length ≤ 1048576) (d : Nat) : ∀ (i : Nat), i ≤ l.length → l.length - i = d → Ev (fun k => laws_eqIntS.l0 k l l (i : Int)) true := by
  induction d with
  | zero =>
    intro i hi hd
    refine Ev.step (fun k => ?_) (Ev.now true)
    simp only [laws_eqIntS.l0]
    rw [if_neg (by omega)]
  | succ d ih =>
    intro i hi hd
    refine Ev.step (fun k => ?_) (ih (i + 1) (by omega) (by omega))
    simp only [laws_eqIntS.l0]
    rw [if_pos (by omega), if_pos (by omega), if_pos (by omega), if_pos trivial, w64 (by omega) (by omega)]
    simp
theorem eqIntS_f (l : List Int) (hl : l.length ≤ 1048576) : Ev (fun k => laws_eqIntS.f k l l) true := by
  refine Ev.congr (fun k => ?_) (eqIntS_l l hl l.length 0 (by omega) (by omega))
  simp only [laws_eqIntS.f]
  rw [if_pos trivial]
  simp
def sameFrom (a b : List Int) (i n : Nat) : Prop := ∀ j, i ≤ j → j < n → a.getD j 0 = b.getD j 0
theorem under_l (a b : List Int) (ha : a.length ≤ 1048576) (hb : b.length ≤ 1048576) (d : Nat) : ∀ (i : Nat), i ≤ b.length → b.length - i = d → i ≤ a.length →
    ∃ r, Ev (fun k => spec_Under.l0 k a b (i : Int)) r ∧ (r = true ↔ b.length ≤ a.length ∧ sameFrom a b i b.length) := by
  induction d with
  | zero =>
    intro i hi hd ha'
    refine ⟨true, Ev.step (fun k => ?_) (Ev.now true), ?_⟩
    · simp only [spec_Under.l0]
      rw [if_neg (by omega)]
    · simp only [true_iff]
      exact ⟨by omega, fun j h1 h2 => by omega⟩
  | succ d ih =>
    intro i hi hd ha'
    by_cases hlt : i < a.length
    · by_cases e : a.getD i 0 = b.getD i 0
      · obtain ⟨r, hr, hiff⟩ := ih (i + 1) (by omega) (by omega) (by omega)
        refine ⟨r, Ev.step (fun k => ?_) hr, hiff.trans ⟨fun h => ⟨h.1, fun j h1 h2 => ?_⟩, fun h => ⟨h.1, fun j h1 h2 => h.2 j (by omega) h2⟩⟩⟩
        · simp only [spec_Under.l0]
          rw [if_pos (by omega), if_neg (by omega), if_pos (by omega), if_pos (by omega), rd_nat, rd_nat, if_pos e, w64 (by omega) (by omega)]
          simp
        · by_cases e2 : j = i
          · rw [e2]; exact e
          · exact h.2 j (by omega) h2
      · refine ⟨false, Ev.step (fun k => ?_) (Ev.now false), ?_⟩
        · simp only [spec_Under.l0]
          rw [if_pos (by omega), if_neg (by omega), if_pos (by omega), if_pos (by omega), rd_nat, rd_nat, if_neg e]
        · simp only [Bool.false_eq_true, false_iff]
          exact fun h => e (h.2 i (by omega) (by omega))
    · refine ⟨false, Ev.step (fun k => ?_) (Ev.now false), ?_⟩
      · simp only [spec_Under.l0]
        rw [if_pos (by omega), if_pos (by omega)]
      · simp only [Bool.false_eq_true, false_iff]
        exact fun h => by omega
theorem equal_l (a b : List Int) (hab : a.length = b.length) (hb : b.length ≤ 1048576) (d : Nat) : ∀ (i : Nat), i ≤ b.length → b.length - i = d →
    ∃ r, Ev (fun k => slices_Equal_int_int.l0 k a b (a.length : Int) (i : Int)) r ∧ (r = true ↔ sameFrom a b i b.length) := by
  induction d with
  | zero =>
    intro i hi hd
    refine ⟨true, Ev.step (fun k => ?_) (Ev.now true), ?_⟩
    · simp only [slices_Equal_int_int.l0]
      rw [if_neg (by omega)]
    · simp only [true_iff]
      exact fun j h1 h2 => by omega
  | succ d ih =>
    intro i hi hd
    by_cases e : a.getD i 0 = b.getD i 0
    · obtain ⟨r, hr, hiff⟩ := ih (i + 1) (by omega) (by omega)
      refine ⟨r, Ev.step (fun k => ?_) hr, hiff.trans ⟨fun h j h1 h2 => ?_, fun h j h1 h2 => h j (by omega) h2⟩⟩
      · simp only [slices_Equal_int_int.l0]
        rw [if_pos (by omega), if_pos (by omega), if_pos (by omega), if_pos (by omega), rd_nat, rd_nat, if_pos e, w64 (by omega) (by omega)]
        simp
      · by_cases e2 : j = i
        · rw [e2]; exact e
        · exact h j (by omega) h2
    · refine ⟨false, Ev.step (fun k => ?_) (Ev.now false), ?_⟩
      · simp only [slices_Equal_int_int.l0]
        rw [if_pos (by omega), if_pos (by omega), if_pos (by omega), if_pos (by omega), rd_nat, rd_nat, if_neg e]
      · simp only [Bool.false_eq_true, false_iff]
        exact fun h => e (h i (by omega) (by omega))
theorem bool_same {a b : Bool} {p : Prop} (h : a = true ↔ p) (k : b = true ↔ p) : a = b := by
  rw [Bool.eq_iff_iff]; exact h.trans k.symm
theorem path_same (a b : List Int) (ha : a.length ≤ 1048576) (hb : b.length ≤ 1048576) : ∃ r, Ev (fun k => spec_SamePath.f k a b) r ∧ Ev (fun k => impl_SamePath.f k a b) r := by
  by_cases hlen : a.length = b.length
  · obtain ⟨r, hr, hiff⟩ := under_l a b ha hb b.length 0 (by omega) (by omega) (by omega)
    obtain ⟨q, hq, hiq⟩ := equal_l a b hlen hb b.length 0 (by omega) (by omega)
    have e : q = r := bool_same hiq (hiff.trans ⟨fun h => h.2, fun h => ⟨by omega, h⟩⟩)
    subst e
    refine ⟨q, ?_, ?_⟩
    · refine Ev.congr (g := fun k => spec_SamePath.f k a b) (f := fun k => (spec_Under.l0 k a b 0).bind fun t => some t) (fun k => ?_) (Ev.bind hr (Ev.now _))
      simp only [spec_SamePath.f, spec_Under.f]
      rw [if_pos (by omega)]
    · refine Ev.congr (g := fun k => impl_SamePath.f k a b) (f := fun k => (slices_Equal_int_int.l0 k a b (a.length : Int) 0).bind fun t => some t) (fun k => ?_) (Ev.bind hq (Ev.now _))
      simp only [impl_SamePath.f, slices_Equal_int_int.f]
      rw [if_pos (by omega)]
  · refine ⟨false, Ev.congr (fun k => ?_) (Ev.now false), Ev.congr (fun k => ?_) (Ev.now false)⟩
    · simp only [spec_SamePath.f]
      rw [if_neg (by omega)]
    · simp only [impl_SamePath.f, slices_Equal_int_int.f]
      rw [if_neg (by omega)]
      rfl
theorem FnExactSamePath : laws_FnExactSamePath.Pure := by
  intro a b _ _ _ _ _ _
  by_cases ha : (a.length : Int) > 1048576
  · exact ⟨0, by simp only [laws_FnExactSamePath.f]; rw [if_pos ha]⟩
  by_cases hb : (b.length : Int) > 1048576
  · exact ⟨0, by simp only [laws_FnExactSamePath.f]; rw [if_neg ha, if_pos hb]⟩
  have h1 := toIntS_f a (by omega)
  have h2 := toIntS_f b (by omega)
  have e1 := eqIntS_f a (by omega)
  have e2 := eqIntS_f b (by omega)
  obtain ⟨r, hs, hi⟩ := path_same a b (by omega) (by omega)
  refine Ev.rounds (r := true) ?_
  refine Ev.congr (fun k => by simp only [laws_FnExactSamePath.f]; rw [if_neg ha, if_neg hb]) ?_
  refine Ev.bind h1 (Ev.bind h2 (Ev.bind hs (Ev.bind h1 (Ev.bind h2 (Ev.bind hi ?_)))))
  refine Ev.congr (fun k => by rw [if_neg (by simp)]) ?_
  refine Ev.bind h1 (Ev.bind e1 ?_)
  refine Ev.congr (fun k => by rw [if_pos rfl]) ?_
  refine Ev.bind h2 (Ev.bind e2 ?_)
  exact Ev.congr (fun k => by rw [if_pos rfl]) (Ev.now true)

end FnExactSamePath_
theorem FnExactSamePath : laws_FnExactSamePath.Pure := FnExactSamePath_.FnExactSamePath
end Go.Proofs.Ytekopaanhedipaa.Pure
