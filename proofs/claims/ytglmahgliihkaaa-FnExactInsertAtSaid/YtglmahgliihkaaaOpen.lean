/- What a law's arguments read as: a slice whose elements read as data of a kind is a row of that kind.
Conditions: none. -/
import Derived.Test.YtglmahgliihkaaaWWords
import Derived.ChangeArms
import Derived.ChangeSlices
namespace Go.Proofs.Ytglmahgliihkaaa.Opens
open Go.RowKit Go.Proofs.YtglmahgliihkaaaW.PrintWords
variable {H : Type} {enc : TypeId × Value → H} {P : Program} {w : World}
abbrev Rd (enc : TypeId × Value → H) (P : Program) (w : World) (fuel : Nat) (t : TypeId) (cs : List Value) (y : DataW H × List MemPlace) : Prop :=
  DataW.trod enc P w 0 (fun _ => true) true fuel t cs = some y
theorem cells_get {base : Nat} {a : Addr} {n : Nat} {cs : List Value} (h : w.cells? base a n = some cs) : cs.length = n ∧ ∀ i u, cs[i]? = some u → w.cell? (a.add i) = some u := by
  unfold World.cells? at h
  split at h
  · have hl := mapM_some_length h
    rw [List.length_range] at hl
    refine ⟨hl, fun i u hu => ?_⟩
    have hi : i < cs.length := (List.getElem?_eq_some_iff.1 hu).1
    have := mapM_some_get h i i (by rw [List.getElem?_range (by omega)])
    rw [this]
    exact hu
  · cases h
theorem exists_list {α : Type} {Q : Nat → α → Prop} : ∀ n, (∀ i, i < n → ∃ x, Q i x) → ∃ xs : List α, xs.length = n ∧ ∀ i x, xs[i]? = some x → Q i x
  | 0, _ => ⟨[], rfl, fun i x h => by simp at h⟩
  | n + 1, h => by
    obtain ⟨xs, hl, hx⟩ := exists_list n (fun i hi => h i (by omega))
    obtain ⟨x, hq⟩ := h n (by omega)
    refine ⟨xs ++ [x], by simp [hl], fun i y hy => ?_⟩
    by_cases hi : i < xs.length
    · rw [List.getElem?_append_left hi] at hy
      exact hx i y hy
    · have hlt : i < (xs ++ [x]).length := (List.getElem?_eq_some_iff.1 hy).1
      have e : i = n := by simp at hlt; omega
      subst e
      rw [List.getElem?_append_right (by omega), hl] at hy
      simp at hy
      subst hy
      exact hq
theorem open_row {α : Type} {d : Kd α} {WF : α → Prop} {t e : TypeId} {fuel : Nat} {cs : List Value} {y : DataW H × List MemPlace} (ht : P.underlying t = some (.slice e)) (hc : P.cellsOf e = d.sz)
    (el : ∀ n, n < fuel → ∀ cs' y', Rd enc P w n e cs' y' → ∃ x, d.K w x cs' ∧ WF x) (h : Rd enc P w fuel t cs y) :
    ∃ (A : Option Addr) (c : Nat) (xs : List α), cs = [.slice A xs.length c] ∧ xs.length ≤ c ∧ d.C w A xs.length xs ∧ xs.length ≤ maxLen ∧ ∀ x ∈ xs, WF x := by
  rcases DataW.trod_slice ht h with ⟨hcs, _⟩ | ⟨a, len, cap, elems, rest, n, hf, hcs, hx, hb, hl, hm, hlen, hel, _, _⟩
  · exact ⟨none, 0, [], hcs, Nat.le_refl _, ⟨rfl, by simp, fun h => absurd h (by simp)⟩, Nat.zero_le _, fun x hx => by cases hx⟩
  · obtain ⟨xs, hxl, hxs⟩ := exists_list (Q := fun i x => (∃ c, c.length = d.sz ∧ d.K w x c ∧ ∀ k u, c[k]? = some u → w.cell? (a.add (i * d.sz + k)) = some u) ∧ WF x) len (fun i hi => by
      have hi2 := hel i hi
      obtain ⟨z, hz⟩ : ∃ z, elems[i]? = some z := ⟨elems[i], List.getElem?_eq_getElem (by omega)⟩
      rw [hz, Option.bind_eq_some_iff] at hi2
      obtain ⟨cs', hcs', ht'⟩ := hi2
      obtain ⟨x, hK, hW⟩ := el n (by omega) cs' z ht'
      obtain ⟨hl', hg⟩ := cells_get hcs'
      rw [hc] at hl' hg
      exact ⟨x, ⟨cs', hl', hK, fun k u hu => by have := hg k u hu; rwa [Addr.add_add] at this⟩, hW⟩)
    refine ⟨some a, cap, xs, by rw [hxl]; exact hcs, by omega, ⟨rfl, ?_, fun _ => ⟨a, rfl, fun j p hp => (hxs j p hp).1⟩⟩, by omega, fun x hx => ?_⟩
    · rw [hxl]
      unfold maxLen at hm
      omega
    · obtain ⟨i, hi⟩ := List.getElem?_of_mem hx
      exact (hxs i x hi).2
theorem fields_of {t : TypeId} {fs : Array Field} {fuel : Nat} {cs : List Value} {y : DataW H × List MemPlace} (ht : P.underlying t = some (.struct fs)) (h : Rd enc P w fuel t cs y) :
    ∃ n, n < fuel ∧ cs.length = P.cellsOf t ∧ ∀ (i : Nat) (f : Field), fs[i]? = some f → ∃ z, Rd enc P w n f.type ((cs.drop f.offset).take (P.cellsOf f.type)) z := by
  obtain ⟨xs, n, rfl, _, hl, hx, hf⟩ := DataW.trod_struct ht h
  refine ⟨n, by omega, hl, fun i f hi => ?_⟩
  have hlt : i < xs.length := by
    have := (Array.getElem?_eq_some_iff.1 hi).1
    omega
  exact ⟨xs[i], by rw [Rd, hf i f hi, List.getElem?_eq_getElem hlt]⟩
end Go.Proofs.Ytglmahgliihkaaa.Opens
