/- The program's DefOf (slices.IndexFunc with a closure) and the reference's loop answer alike at every list and all names; the list reads as it did.
Conditions: none. -/
import Derived.Test.YtekopaanhedipaaSaidFnExactDefOf
import Derived.Test.YtekopaanhedipaaLists
namespace Go.Proofs.Ytekopaanhedipaa.Pure
open Go.RowKit Go.Proofs.Ytekopaanhedipaa.PZ Go.Proofs.YtekopaanhedipaaW.PrintWords Go.Proofs.YtekopaanhedipaaW.PrintLast Go.Proofs.Ytekopaanhedipaa.Lists
set_option linter.unusedVariables false
set_option linter.unusedSimpArgs false

namespace FnExactDefOf_
theorem rd_LDef (l : List S67) (i : Nat) (h : i < l.length) : rd_T67 l (i : Int) = l[i] := by simp [rd_T67, List.getD_eq_getElem?_getD, List.getElem?_eq_getElem h]
theorem rd_IDef (l : List S42) (i : Nat) (h : i < l.length) : rd_T42 l (i : Int) = l[i] := by simp [rd_T42, List.getD_eq_getElem?_getD, List.getElem?_eq_getElem h]
def convDef (x : S67) : S42 := ⟨x.f0, x.f1, x.f2, x.f3, x.f4⟩
theorem eqDef_f (x : S42) : laws_eqDef.f x.f0 x.f1 x.f2 x.f3 x.f4 x.f0 x.f1 x.f2 x.f3 x.f4 = some true := by
  unfold laws_eqDef.f
  simp
def wDef (x : S67) : Int := (x.f0.size : Int) + (x.f1.size : Int) + (x.f4.size : Int)
theorem wDef_nonneg (x : S67) : 0 ≤ wDef x := by unfold wDef; omega
theorem szDef_f (x : S67) (left : Int) (hw : WF67 x) (h0 : 0 ≤ left) (h1 : left ≤ 1048576) : ∃ r, laws_szDef.f x.f0 x.f1 x.f2 x.f3 x.f4 left = some r ∧ (0 ≤ r → r + wDef x = left) := by
  obtain ⟨h_0, h_1, h_2, h_3, h_4⟩ := hw
  unfold maxLen at h_0 h_1 h_4
  unfold laws_szDef.f wrap64 wDef
  split
  · exact ⟨_, rfl, by omega⟩
  split
  · exact ⟨_, rfl, by omega⟩
  split
  · exact ⟨_, rfl, by omega⟩
  exact ⟨_, rfl, fun _ => by omega⟩
theorem szDefS_f (l : List S67) (hw : l.length ≤ maxLen ∧ ∀ x ∈ l, WF67 x) (left : Int) (h0 : 0 ≤ left) (h1 : left ≤ 1048576) : ∃ r, Ev (fun k => laws_szDefS.f k l left) r ∧ (0 ≤ r → r + ((l.length : Int) + sumOf wDef l) = left) := by
  obtain ⟨hl, hw⟩ := hw
  unfold maxLen at hl
  have e : wrap64 (left - (l.length : Int)) = left - (l.length : Int) := w64 (by omega) (by omega)
  by_cases hn : left - (l.length : Int) < 0
  · exact ⟨-1, Ev.congr (fun k => by simp only [laws_szDefS.f]; rw [e, if_pos hn]) (Ev.now _), fun h => by omega⟩
  · obtain ⟨r, hr, hrw⟩ := size_all (l := l) (w := wDef) (M := 1048576) (G := fun k left i => laws_szDefS.l0 k l left i) (H := fun _ left i => laws_szDef.f (rd_T67 l (i : Int)).f0 (rd_T67 l (i : Int)).f1 (rd_T67 l (i : Int)).f2 (rd_T67 l (i : Int)).f3 (rd_T67 l (i : Int)).f4 left) wDef_nonneg
      (fun k left i h0 hi => by simp only [laws_szDefS.l0]; rw [if_pos (by omega), if_pos (by omega), w64 (by omega) (by omega)])
      (fun i hi left h0 h1 => by
        obtain ⟨r, a, b⟩ := szDef_f l[i] left (hw _ (List.getElem_mem hi)) h0 h1
        exact ⟨r, Ev.congr (fun k => by rw [rd_LDef l i hi]; exact a) (Ev.now r), b⟩)
      (fun k left h0 => by simp only [laws_szDefS.l0]; rw [if_neg (by omega)]) (left - (l.length : Int)) (by omega) (by omega)
    exact ⟨r, Ev.congr (fun k => by simp only [laws_szDefS.f]; rw [e, if_neg hn]) hr, fun h => by have := hrw h; omega⟩
theorem toDefS_f (l : List S67) (hl : l.length ≤ 1048576) : Ev (fun k => laws_toDefS.f k l) (l.map convDef) := by
  have h := copy_all (l := l) (f := convDef) (G := fun k x i => laws_toDefS.l0 k l x i) (H := fun _ i => some (convDef (rd_T67 l (i : Int)))) (List.replicate l.length z42) (by simp)
    (fun k x i hx hi => by
      simp only [laws_toDefS.l0, laws_toDef.f, Option.bind_some]
      rw [if_pos (by omega), if_pos (by omega), if_pos (by omega), w64 (by omega) (by omega), Int.toNat_natCast]
      rfl)
    (fun i hi => by rw [rd_LDef l i hi]; exact Ev.now _) (fun k x hx => by simp only [laws_toDefS.l0]; rw [if_neg (by omega)])
  refine Ev.congr (fun k => ?_) h
  simp only [laws_toDefS.f, Int.toNat_natCast]
  rw [if_pos (by omega), if_pos (by omega)]
theorem eqDefS_f (l : List S42) (hl : l.length ≤ 1048576) : Ev (fun k => laws_eqDefS.f k l l) true := by
  have h := all_all (n := l.length) (G := fun k i => laws_eqDefS.l0 k l l i) (H := fun _ i => laws_eqDef.f (rd_T42 l (i : Int)).f0 (rd_T42 l (i : Int)).f1 (rd_T42 l (i : Int)).f2 (rd_T42 l (i : Int)).f3 (rd_T42 l (i : Int)).f4 (rd_T42 l (i : Int)).f0 (rd_T42 l (i : Int)).f1 (rd_T42 l (i : Int)).f2 (rd_T42 l (i : Int)).f3 (rd_T42 l (i : Int)).f4)
    (fun k i hi => by simp only [laws_eqDefS.l0]; rw [if_pos (by omega), if_pos (by omega), if_pos (by omega), w64 (by omega) (by omega)])
    (fun i hi => Ev.congr (fun k => eqDef_f _) (Ev.now true)) (fun k => by simp only [laws_eqDefS.l0]; rw [if_neg (by omega)])
  refine Ev.congr (fun k => ?_) h
  simp only [laws_eqDefS.f]
  rw [if_pos trivial]
def pDef (a b : ByteArray) (d : S42) : Bool := impl_DefOf.p a b d
theorem DefOf_both (l : List S42) (a b : ByteArray) (hl : l.length ≤ 1048576) (d : Nat) : ∀ i : Nat, i ≤ l.length → l.length - i = d → (∀ j (h : j < l.length), j < i → impl_DefOf.p a b l[j] = false) →
    ∃ r, Ev (fun k => spec_DefOf.l0 k l a b (i : Int)) r ∧ impl_DefOf.f l a b = some r := by
  induction d with
  | zero =>
    intro i hi hd hj
    have e : i = l.length := by omega
    subst e
    have hno : ¬ l.findIdx (impl_DefOf.p a b) < l.length := fun hlt => by
      have h1 := List.findIdx_getElem (w := hlt)
      rw [hj _ hlt hlt] at h1
      cases h1
    refine ⟨_, Ev.step (fun k => ?_) (Ev.now _), by unfold impl_DefOf.f; rw [if_neg hno]⟩
    simp only [spec_DefOf.l0]
    rw [if_neg (by omega)]
  | succ d ih =>
    intro i hi hd hj
    have hlt : i < l.length := by omega
    have hrd := rd_IDef l i hlt
    cases hp : impl_DefOf.p a b l[i] with
    | true =>
      have hf : l.findIdx (impl_DefOf.p a b) = i := (List.findIdx_eq hlt).2 ⟨hp, fun j hji => hj j (by omega) hji⟩
      have hp2 : l[i].f0.toList = a.toList ∧ l[i].f1.toList = b.toList := by
        unfold impl_DefOf.p at hp
        simpa using hp
      refine ⟨_, Ev.step (fun k => ?_) (Ev.now _), by unfold impl_DefOf.f; rw [hf, if_pos hlt, hrd]⟩
      simp only [spec_DefOf.l0]
      rw [if_pos (by omega), if_pos (by omega), hrd, if_pos hp2.1, if_pos hp2.2]
    | false =>
      obtain ⟨r, hr, hf⟩ := ih (i + 1) (by omega) (by omega) (fun j h hji => by
        by_cases e : j = i
        · subst e; exact hp
        · exact hj j h (by omega))
      refine ⟨r, Ev.step (fun k => ?_) hr, hf⟩
      have hp2 : l[i].f0.toList = a.toList → ¬ l[i].f1.toList = b.toList := fun h1 h2 => by
        unfold impl_DefOf.p at hp
        simp [h1, h2] at hp
      simp only [spec_DefOf.l0]
      rw [if_pos (by omega), if_pos (by omega), hrd, w64 (by omega) (by omega)]
      by_cases c1 : l[i].f0.toList = a.toList
      · rw [if_pos c1, if_neg (hp2 c1)]
        rfl
      · rw [if_neg c1]
        rfl
theorem FnExactDefOf : laws_FnExactDefOf.Pure := by
  intro l a b hw ha hb
  by_cases ca : (a.size : Int) > 1048576
  · exact ⟨0, by simp only [laws_FnExactDefOf.f]; rw [if_pos ca]⟩
  by_cases cb : (b.size : Int) > 1048576
  · exact ⟨0, by simp only [laws_FnExactDefOf.f]; rw [if_neg ca, if_pos cb]⟩
  obtain ⟨r, hr, hrw⟩ := szDefS_f l hw 1048576 (by omega) (by omega)
  refine Ev.rounds (r := true) ?_
  refine Ev.congr (fun k => by simp only [laws_FnExactDefOf.f]; rw [if_neg ca, if_neg cb]) (Ev.bind hr ?_)
  by_cases hn : r < 0
  · exact Ev.congr (fun k => by rw [if_pos hn]) (Ev.now _)
  have hs := sumOf_nonneg wDef_nonneg l
  have hl : l.length ≤ 1048576 := by have := hrw (by omega); omega
  have ht := toDefS_f l hl
  have hm : (l.map convDef).length ≤ 1048576 := by simpa using hl
  obtain ⟨q, hq, hf⟩ := DefOf_both (l.map convDef) a b hm (l.map convDef).length 0 (by omega) (by omega) (fun j h hj => by omega)
  have hq' : Ev (fun k => spec_DefOf.f k (l.map convDef) a b) q := Ev.congr (fun k => by simp [spec_DefOf.f]) hq
  refine Ev.congr (fun k => by rw [if_neg hn]) (Ev.bind ht (Ev.bind hq' (Ev.bind ht ?_)))
  rw [hf]
  have e1 : laws_eqDef.f q.1 q.2.1 q.2.2.1 q.2.2.2.1 q.2.2.2.2.1 q.1 q.2.1 q.2.2.1 q.2.2.2.1 q.2.2.2.2.1 = some true := eqDef_f ⟨q.1, q.2.1, q.2.2.1, q.2.2.2.1, q.2.2.2.2.1⟩
  simp only [Option.bind_some, e1, if_true]
  have hb2 : (q.2.2.2.2.2 != q.2.2.2.2.2) = false := by simp
  rw [hb2]
  refine Ev.step (fun k => by simp only [laws_FnExactDefOf.j0]; rw [if_neg (by simp)]) ?_
  exact Ev.bind ht (Ev.bind (eqDefS_f _ hm) (Ev.congr (fun k => by rw [if_pos rfl]) (Ev.now true)))

end FnExactDefOf_
theorem FnExactDefOf : laws_FnExactDefOf.Pure := FnExactDefOf_.FnExactDefOf
end Go.Proofs.Ytekopaanhedipaa.Pure
