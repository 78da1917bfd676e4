/- The program's Blanks and the reference's come to the same place behind the blanks, at every text of up to 1048576 bytes and every place.
Conditions: none. -/
import Derived.Test.YtekopaanhedipaaPFnExactBlanksx1
namespace Go.Proofs.Ytekopaanhedipaa.Pure
open Go.RowKit Go.Proofs.Ytekopaanhedipaa.PFnExactBlanks Go.Proofs.YtekopaanhedipaaW.PrintWords Go.Proofs.YtekopaanhedipaaW.PrintLast
set_option linter.unusedVariables false
set_option linter.unusedSimpArgs false

theorem both_rounds {α β : Type} {g : Nat → Option α} {f : Nat → Option β} {r : α} {q : β} (h : Ev g r) (h' : Ev f q) : ∃ k, g k = some r ∧ f k = some q := by
  obtain ⟨K, h⟩ := h
  obtain ⟨K', h'⟩ := h'
  exact ⟨max K K', h _ (by omega), h' _ (by omega)⟩
theorem isb (c : Int) : ∃ b, spec_IsBlank.f c = some b ∧ impl_IsBlank.f c = some b := by
  unfold spec_IsBlank.f impl_IsBlank.f
  repeat' split
  all_goals exact ⟨_, rfl, rfl⟩
theorem blanks_both (s : ByteArray) (hs : s.size ≤ 140737488351232) (d : Nat) : ∀ i : Int, 0 ≤ i → (s.size : Int) - i ≤ d →
    ∃ r, Ev (fun k => spec_Blanks.l0 k s i) r ∧ Ev (fun k => impl_Blanks.l0 k s i) r := by
  induction d with
  | zero =>
    intro i h0 h1
    refine ⟨i, Ev.step (fun k => ?_) (Ev.now i), Ev.step (fun k => ?_) (Ev.now i)⟩
    · simp only [spec_Blanks.l0]
      rw [if_pos h0, if_neg (by omega)]
    · simp only [impl_Blanks.l0]
      rw [if_neg (by omega)]
  | succ d ih =>
    intro i h0 h1
    by_cases hlt : i < (s.size : Int)
    · obtain ⟨b, hb1, hb2⟩ := isb (wrap64 (bt s i))
      cases b with
      | true =>
        obtain ⟨r, hr1, hr2⟩ := ih (i + 1) (by omega) (by omega)
        have hw : wrap64 (i + 1) = i + 1 := by unfold wrap64; omega
        refine ⟨r, Ev.step (fun k => ?_) hr1, Ev.step (fun k => ?_) hr2⟩
        · simp only [spec_Blanks.l0]
          rw [if_pos h0, if_pos hlt, if_pos h0, hb1]
          simp only [Option.bind_some, if_true]
          rw [hw]
        · simp only [impl_Blanks.l0]
          rw [if_pos hlt, if_pos h0, hb2]
          simp only [Option.bind_some, if_true]
          rw [hw]
      | false =>
        refine ⟨i, Ev.step (fun k => ?_) (Ev.now i), Ev.step (fun k => ?_) (Ev.now i)⟩
        · simp only [spec_Blanks.l0]
          rw [if_pos h0, if_pos hlt, if_pos h0, hb1]
          simp
        · simp only [impl_Blanks.l0]
          rw [if_pos hlt, if_pos h0, hb2]
          simp
    · refine ⟨i, Ev.step (fun k => ?_) (Ev.now i), Ev.step (fun k => ?_) (Ev.now i)⟩
      · simp only [spec_Blanks.l0]
        rw [if_pos h0, if_neg hlt]
      · simp only [impl_Blanks.l0]
        rw [if_neg hlt]

theorem FnExactBlanks : laws_FnExactBlanks.Pure := by
  intro s i hs _
  have h : ∃ r, Ev (fun k => spec_Blanks.f k s i) r ∧ Ev (fun k => impl_Blanks.f k s i) r := by
    by_cases h0 : 0 ≤ i
    · obtain ⟨r, h1, h2⟩ := blanks_both s hs ((s.size : Int) - i).toNat i h0 (by omega)
      refine ⟨r, Ev.congr (fun k => ?_) h1, Ev.congr (fun k => ?_) h2⟩
      · simp only [spec_Blanks.f]
      · simp only [impl_Blanks.f]
        rw [if_neg (by omega)]
    · refine ⟨i, Ev.step (f := fun _ => some i) (fun k => ?_) (Ev.now i), Ev.congr (fun k => ?_) (Ev.now i)⟩
      · simp only [spec_Blanks.f, spec_Blanks.l0]
        rw [if_neg (by omega)]
      · simp only [impl_Blanks.f]
        rw [if_pos (by omega)]
  obtain ⟨r, h1, h2⟩ := h
  obtain ⟨k, hk1, hk2⟩ := both_rounds h1 h2
  refine ⟨k, ?_⟩
  unfold laws_FnExactBlanks.f
  split
  · rfl
  · rw [hk1, hk2]
    simp

end Go.Proofs.Ytekopaanhedipaa.Pure
