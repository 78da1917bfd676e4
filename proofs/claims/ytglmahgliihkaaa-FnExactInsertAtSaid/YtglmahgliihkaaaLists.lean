/- Loops over lists, as the printed functions go: a copy, a comparison with itself, a measure.
Conditions: none. -/
import Derived.Test.YtglmahgliihkaaaWWords
namespace Go.Proofs.Ytglmahgliihkaaa.Lists
open Go.RowKit Go.Proofs.YtglmahgliihkaaaW.PrintWords
theorem w64 {i : Int} (h0 : -9223372036854775808 ≤ i) (h1 : i ≤ 9223372036854775807) : wrap64 i = i := by unfold wrap64; omega
theorem copy_from {α β : Type} {l : List α} {f : α → β} {G : Nat → List β → Int → Option (List β)} {H : Nat → Nat → Option β}
  (hs : ∀ k x (i : Nat), x.length = l.length → i < l.length → G (k + 1) x (i : Int) = (H k i).bind fun t => G k (x.set i t) ((i : Int) + 1))
  (hH : ∀ (i : Nat) (h : i < l.length), Ev (fun k => H k i) (f l[i])) (he : ∀ k x, x.length = l.length → G (k + 1) x (l.length : Int) = some x) (d : Nat) :
  ∀ (i : Nat) (x : List β), x.length = l.length → i ≤ l.length → l.length - i = d → (∀ j, j < i → x[j]? = (l.map f)[j]?) → Ev (fun k => G k x (i : Int)) (l.map f) := by
 induction d with
 | zero =>
  intro i x hx hi hd hj
  have e : i = l.length := by omega
  subst e
  have ex : x = l.map f := List.ext_getElem? (fun j => by
   by_cases hlt : j < l.length
   ·exact hj j hlt
   ·rw [List.getElem?_eq_none (by omega), List.getElem?_eq_none (by simp; omega)])
  exact Ev.step (f := fun _ => some (l.map f)) (fun k => by rw [he k x hx, ex]) (Ev.now _)
 | succ d ih =>
  intro i x hx hi hd hj
  have hlt : i < l.length := by omega
  refine Ev.step (fun k => hs k x i hx hlt) (Ev.bind (hH i hlt) ?_)
  have := ih (i + 1) (x.set i (f l[i])) (by simp [hx]) (by omega) (by omega) (fun j hjlt => by
   by_cases e : j = i
   ·subst e
    rw [List.getElem?_set_self (by omega), List.getElem?_map, List.getElem?_eq_getElem hlt]
    rfl
   ·rw [List.getElem?_set_ne (by omega)]
    exact hj j (by omega))
  simpa using this
theorem copy_all {α β : Type} {l : List α} {f : α → β} {G : Nat → List β → Int → Option (List β)} {H : Nat → Nat → Option β} (x : List β) (hx : x.length = l.length)
  (hs : ∀ k x (i : Nat), x.length = l.length → i < l.length → G (k + 1) x (i : Int) = (H k i).bind fun t => G k (x.set i t) ((i : Int) + 1))
  (hH : ∀ (i : Nat) (h : i < l.length), Ev (fun k => H k i) (f l[i])) (he : ∀ k x, x.length = l.length → G (k + 1) x (l.length : Int) = some x) : Ev (fun k => G k x 0) (l.map f) := by
 have := copy_from hs hH he l.length 0 x hx (by omega) (by omega) (fun j h => by omega)
 simpa using this
theorem all_from {n : Nat} {G : Nat → Int → Option Bool} {H : Nat → Nat → Option Bool}
  (hs : ∀ k (i : Nat), i < n → G (k + 1) (i : Int) = (H k i).bind fun t => if t = true then G k ((i : Int) + 1) else some false)
  (hH : ∀ (i : Nat), i < n → Ev (fun k => H k i) true) (he : ∀ k, G (k + 1) (n : Int) = some true) (d : Nat) : ∀ i : Nat, i ≤ n → n - i = d → Ev (fun k => G k (i : Int)) true := by
 induction d with
 | zero =>
  intro i hi hd
  have e : i = n := by omega
  subst e
  exact Ev.step (f := fun _ => some true) (fun k => he k) (Ev.now _)
 | succ d ih =>
  intro i hi hd
  refine Ev.step (fun k => hs k i (by omega)) (Ev.bind (hH i (by omega)) ?_)
  have := ih (i + 1) (by omega) (by omega)
  exact Ev.congr (fun k => by rw [if_pos rfl]) (by simpa using this)
theorem all_all {n : Nat} {G : Nat → Int → Option Bool} {H : Nat → Nat → Option Bool}
  (hs : ∀ k (i : Nat), i < n → G (k + 1) (i : Int) = (H k i).bind fun t => if t = true then G k ((i : Int) + 1) else some false)
  (hH : ∀ (i : Nat), i < n → Ev (fun k => H k i) true) (he : ∀ k, G (k + 1) (n : Int) = some true) : Ev (fun k => G k 0) true := by
 have := all_from hs hH he n 0 (by omega) (by omega)
 simpa using this
def sumOf {α : Type} (w : α → Int) (l : List α) : Int := (l.map w).foldr (· + ·) 0
theorem sumOf_nil {α : Type} (w : α → Int) : sumOf w [] = 0 := rfl
theorem sumOf_cons {α : Type} (w : α → Int) (x : α) (l : List α) : sumOf w (x :: l) = w x + sumOf w l := rfl
theorem sumOf_mem {α : Type} {w : α → Int} (hw : ∀ x, 0 ≤ w x) {l : List α} : ∀ {x : α}, x ∈ l → w x ≤ sumOf w l := by
 induction l with
 | nil => intro x h; cases h
 | cons y l ih =>
  intro x h
  have hn : ∀ m : List α, 0 ≤ sumOf w m := fun m => by
   induction m with
   | nil => exact Int.le_refl _
   | cons z m ihm => rw [sumOf_cons]; have := hw z; omega
  rw [sumOf_cons]
  rcases List.mem_cons.1 h with rfl | h
  ·have := hn l; omega
  ·have := ih h; have := hw y; omega
theorem sumOf_nonneg {α : Type} {w : α → Int} (hw : ∀ x, 0 ≤ w x) (l : List α) : 0 ≤ sumOf w l := by
 induction l with
 | nil => exact Int.le_refl _
 | cons z m ihm => rw [sumOf_cons]; have := hw z; omega
theorem size_from {α : Type} {l : List α} {w : α → Int} {M : Int} {G : Nat → Int → Int → Option Int} {H : Nat → Int → Nat → Option Int} (hw : ∀ x, 0 ≤ w x)
  (hs : ∀ k left (i : Nat), 0 ≤ left → i < l.length → G (k + 1) left (i : Int) = (H k left i).bind fun t => if t < 0 then some (-1) else G k t ((i : Int) + 1))
  (hH : ∀ (i : Nat) (h : i < l.length) left, 0 ≤ left → left ≤ M → ∃ r, Ev (fun k => H k left i) r ∧ (0 ≤ r → r + w l[i] = left)) (he : ∀ k left, 0 ≤ left → G (k + 1) left (l.length : Int) = some left) (d : Nat) :
  ∀ (i : Nat) (left : Int), i ≤ l.length → l.length - i = d → 0 ≤ left → left ≤ M → ∃ r, Ev (fun k => G k left (i : Int)) r ∧ (0 ≤ r → r + sumOf w (l.drop i) = left) := by
 induction d with
 | zero =>
  intro i left hi hd h0 h1
  have e : i = l.length := by omega
  subst e
  refine ⟨left, Ev.step (f := fun _ => some left) (fun k => he k left h0) (Ev.now _), fun _ => ?_⟩
  rw [List.drop_length, sumOf_nil]
  omega
 | succ d ih =>
  intro i left hi hd h0 h1
  have hlt : i < l.length := by omega
  obtain ⟨r, hr, hrw⟩ := hH i hlt left h0 h1
  by_cases hn : r < 0
  ·refine ⟨-1, Ev.step (fun k => hs k left i h0 hlt) (Ev.bind hr ?_), fun h => by omega⟩
   exact Ev.congr (fun k => by rw [if_pos hn]) (Ev.now _)
  ·have hwr := hw l[i]
   obtain ⟨q, hq, hqw⟩ := ih (i + 1) r (by omega) (by omega) (by omega) (by have := hrw (by omega); omega)
   refine ⟨q, Ev.step (fun k => hs k left i h0 hlt) (Ev.bind hr ?_), fun h => ?_⟩
   ·exact Ev.congr (fun k => by rw [if_neg hn]) (by simpa using hq)
   ·have a := hqw h
    have b := hrw (by omega)
    rw [List.drop_eq_getElem_cons hlt, sumOf_cons]
    omega
theorem size_all {α : Type} {l : List α} {w : α → Int} {M : Int} {G : Nat → Int → Int → Option Int} {H : Nat → Int → Nat → Option Int} (hw : ∀ x, 0 ≤ w x)
  (hs : ∀ k left (i : Nat), 0 ≤ left → i < l.length → G (k + 1) left (i : Int) = (H k left i).bind fun t => if t < 0 then some (-1) else G k t ((i : Int) + 1))
  (hH : ∀ (i : Nat) (h : i < l.length) left, 0 ≤ left → left ≤ M → ∃ r, Ev (fun k => H k left i) r ∧ (0 ≤ r → r + w l[i] = left)) (he : ∀ k left, 0 ≤ left → G (k + 1) left (l.length : Int) = some left)
  (left : Int) (h0 : 0 ≤ left) (h1 : left ≤ M) : ∃ r, Ev (fun k => G k left 0) r ∧ (0 ≤ r → r + sumOf w l = left) := by
 have := size_from hw hs hH he l.length 0 left (by omega) (by omega) h0 h1
 simpa using this
end Go.Proofs.Ytglmahgliihkaaa.Lists
