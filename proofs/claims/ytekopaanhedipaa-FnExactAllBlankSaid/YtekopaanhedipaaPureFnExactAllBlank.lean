/- The program's AllBlank (Blanks from 0 on comes to the end) and the reference's loop answer alike, at every text.
Conditions: none. -/
import Derived.Test.YtekopaanhedipaaPZx1
namespace Go.Proofs.Ytekopaanhedipaa.Pure
open Go.RowKit Go.Proofs.Ytekopaanhedipaa.PZ Go.Proofs.YtekopaanhedipaaW.PrintWords Go.Proofs.YtekopaanhedipaaW.PrintLast
set_option linter.unusedVariables false
set_option linter.unusedSimpArgs false

namespace FnExactAllBlank_
theorem both_rounds {α β : Type} {g : Nat → Option α} {f : Nat → Option β} {r : α} {q : β} (h : Ev g r) (h' : Ev f q) : ∃ k, g k = some r ∧ f k = some q := by
  obtain ⟨K, h⟩ := h
  obtain ⟨K', h'⟩ := h'
  exact ⟨max K K', h _ (by omega), h' _ (by omega)⟩
theorem isb (c : Int) : ∃ b, spec_IsBlank.f c = some b ∧ impl_IsBlank.f c = some b := by
  unfold spec_IsBlank.f impl_IsBlank.f
  repeat' split
  all_goals exact ⟨_, rfl, rfl⟩
theorem blanks_both (s : ByteArray) (hs : s.size ≤ 140737488351232) (hne : s.toList ≠ ([] : List UInt8)) (d : Nat) : ∀ i : Int, 0 ≤ i → i ≤ s.size → (s.size : Int) - i ≤ d →
    ∃ r, Ev (fun k => spec_AllBlank.l0 k s i) (r == (s.size : Int)) ∧ Ev (fun k => impl_Blanks.l0 k s i) r := by
  induction d with
  | zero =>
    intro i h0 h2 h1
    refine ⟨i, Ev.step (f := fun _ => some (i == (s.size : Int))) (fun k => ?_) (Ev.now _), Ev.step (f := fun _ => some i) (fun k => ?_) (Ev.now i)⟩
    · simp only [spec_AllBlank.l0]
      rw [if_neg (by omega)]
      have e : i = (s.size : Int) := by omega
      simp [e, hne]
    · simp only [impl_Blanks.l0]
      rw [if_neg (by omega)]
  | succ d ih =>
    intro i h0 h2 h1
    by_cases hlt : i < (s.size : Int)
    · obtain ⟨b, hb1, hb2⟩ := isb (wrap64 (bt s i))
      cases b with
      | true =>
        obtain ⟨r, hr1, hr2⟩ := ih (i + 1) (by omega) (by omega) (by omega)
        have hw : wrap64 (i + 1) = i + 1 := by unfold wrap64; omega
        refine ⟨r, Ev.step (fun k => ?_) hr1, Ev.step (fun k => ?_) hr2⟩
        · simp only [spec_AllBlank.l0]
          rw [if_pos hlt, if_pos h0, hb1]
          simp only [Option.bind_some, if_true]
          rw [hw]
        · simp only [impl_Blanks.l0]
          rw [if_pos hlt, if_pos h0, hb2]
          simp only [Option.bind_some, if_true]
          rw [hw]
      | false =>
        refine ⟨i, Ev.step (f := fun _ => some (i == (s.size : Int))) (fun k => ?_) (Ev.now _), Ev.step (f := fun _ => some i) (fun k => ?_) (Ev.now i)⟩
        · simp only [spec_AllBlank.l0]
          rw [if_pos hlt, if_pos h0, hb1]
          have e : ¬ i = (s.size : Int) := by omega
          simp [e]
        · simp only [impl_Blanks.l0]
          rw [if_pos hlt, if_pos h0, hb2]
          simp
    · refine ⟨i, Ev.step (f := fun _ => some (i == (s.size : Int))) (fun k => ?_) (Ev.now _), Ev.step (f := fun _ => some i) (fun k => ?_) (Ev.now i)⟩
      · simp only [spec_AllBlank.l0]
        rw [if_neg hlt]
        have e : i = (s.size : Int) := by omega
        simp [e, hne]
      · simp only [impl_Blanks.l0]
        rw [if_neg hlt]

theorem FnExactAllBlank : laws_FnExactAllBlank.Pure := by
  intro s hs
  have h : ∃ r, Ev (fun k => spec_AllBlank.f k s) r ∧ Ev (fun k => impl_AllBlank.f k s) r := by
    by_cases hne : s.toList = ([] : List UInt8)
    · have hz : s.size = 0 := by
        rw [ByteArray.toList_eq] at hne
        have := congrArg List.length hne
        simpa using this
      refine ⟨false, Ev.step (f := fun _ => some false) (fun k => ?_) (Ev.now _), Ev.congr (fun k => ?_) (Ev.now _)⟩
      · simp only [spec_AllBlank.f, spec_AllBlank.l0]
        rw [if_neg (by omega)]
        simp [hne]
      · simp only [impl_AllBlank.f]
        rw [if_pos hne]
    · obtain ⟨r, h1, h2⟩ := blanks_both s hs hne s.size 0 (by omega) (by omega) (by omega)
      refine ⟨_, Ev.congr (fun k => ?_) h1, ?_⟩
      · simp only [spec_AllBlank.f]
      · refine Ev.congr (g := fun k => impl_AllBlank.f k s) (f := fun k => (impl_Blanks.l0 k s 0).bind fun t => some (t == (s.size : Int))) (fun k => ?_) (Ev.bind h2 (Ev.now _))
        simp only [impl_AllBlank.f, impl_Blanks.f]
        rw [if_neg hne, if_neg (by omega)]
  obtain ⟨r, h1, h2⟩ := h
  obtain ⟨k, hk1, hk2⟩ := both_rounds h1 h2
  refine ⟨k, ?_⟩
  unfold laws_FnExactAllBlank.f
  split
  · rfl
  · rw [hk1, hk2]
    simp

end FnExactAllBlank_
theorem FnExactAllBlank : laws_FnExactAllBlank.Pure := FnExactAllBlank_.FnExactAllBlank
end Go.Proofs.Ytekopaanhedipaa.Pure
