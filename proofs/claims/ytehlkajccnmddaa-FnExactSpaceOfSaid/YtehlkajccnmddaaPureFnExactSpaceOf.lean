/- The program's SpaceOf (slices.Backward, a range over a function) and the reference's loop from the end answer alike at every list and name; the list reads as it did.
Conditions: none. -/
import Derived.Test.YtehlkajccnmddaaSaidFnExactSpaceOf
import Derived.Test.YtehlkajccnmddaaLists
namespace Go.Proofs.Ytehlkajccnmddaa.Pure
open Go.RowKit Go.Proofs.Ytehlkajccnmddaa.PS Go.Proofs.YtehlkajccnmddaaW.PrintWords Go.Proofs.YtehlkajccnmddaaW.PrintLast Go.Proofs.Ytehlkajccnmddaa.Lists
set_option linter.unusedVariables false
set_option linter.unusedSimpArgs false

namespace FnExactSpaceOf_
theorem rd_LDecl (l : List S75) (i : Nat) (h : i < l.length) : rd_T75 l (i : Int) = l[i] := by simp [rd_T75, List.getD_eq_getElem?_getD, List.getElem?_eq_getElem h]
theorem rd_IDecl (l : List S76) (i : Nat) (h : i < l.length) : rd_T76 l (i : Int) = l[i] := by simp [rd_T76, List.getD_eq_getElem?_getD, List.getElem?_eq_getElem h]
def convDecl (x : S75) : S76 := ⟨x.f0, x.f1⟩
theorem eqDecl_f (x : S76) : laws_eqDecl.f x.f0 x.f1 x.f0 x.f1 = some true := by
  unfold laws_eqDecl.f
  simp
def wDecl (x : S75) : Int := (x.f0.size : Int) + (x.f1.size : Int)
theorem wDecl_nonneg (x : S75) : 0 ≤ wDecl x := by unfold wDecl; omega
theorem szDecl_f (x : S75) (left : Int) (hw : WF75 x) (h0 : 0 ≤ left) (h1 : left ≤ 1048576) : ∃ r, laws_szDecl.f x.f0 x.f1 left = some r ∧ (0 ≤ r → r + wDecl x = left) := by
  obtain ⟨h_0, h_1⟩ := hw
  unfold maxLen at h_0 h_1
  unfold laws_szDecl.f wrap64 wDecl
  split
  · exact ⟨_, rfl, by omega⟩
  split
  · exact ⟨_, rfl, by omega⟩
  exact ⟨_, rfl, fun _ => by omega⟩
theorem szDeclS_f (l : List S75) (hw : l.length ≤ maxLen ∧ ∀ x ∈ l, WF75 x) (left : Int) (h0 : 0 ≤ left) (h1 : left ≤ 1048576) : ∃ r, Ev (fun k => laws_szDeclS.f k l left) r ∧ (0 ≤ r → r + ((l.length : Int) + sumOf wDecl l) = left) := by
  obtain ⟨hl, hw⟩ := hw
  unfold maxLen at hl
  have e : wrap64 (left - (l.length : Int)) = left - (l.length : Int) := w64 (by omega) (by omega)
  by_cases hn : left - (l.length : Int) < 0
  · exact ⟨-1, Ev.congr (fun k => by simp only [laws_szDeclS.f]; rw [e, if_pos hn]) (Ev.now _), fun h => by omega⟩
  · obtain ⟨r, hr, hrw⟩ := size_all (l := l) (w := wDecl) (M := 1048576) (G := fun k left i => laws_szDeclS.l0 k l left i) (H := fun _ left i => laws_szDecl.f (rd_T75 l (i : Int)).f0 (rd_T75 l (i : Int)).f1 left) wDecl_nonneg
      (fun k left i h0 hi => by simp only [laws_szDeclS.l0]; rw [if_pos (by omega), if_pos (by omega), w64 (by omega) (by omega)])
      (fun i hi left h0 h1 => by
        obtain ⟨r, a, b⟩ := szDecl_f l[i] left (hw _ (List.getElem_mem hi)) h0 h1
        exact ⟨r, Ev.congr (fun k => by rw [rd_LDecl l i hi]; exact a) (Ev.now r), b⟩)
      (fun k left h0 => by simp only [laws_szDeclS.l0]; rw [if_neg (by omega)]) (left - (l.length : Int)) (by omega) (by omega)
    exact ⟨r, Ev.congr (fun k => by simp only [laws_szDeclS.f]; rw [e, if_neg hn]) hr, fun h => by have := hrw h; omega⟩
theorem toDeclS_f (l : List S75) (hl : l.length ≤ 1048576) : Ev (fun k => laws_toDeclS.f k l) (l.map convDecl) := by
  have h := copy_all (l := l) (f := convDecl) (G := fun k x i => laws_toDeclS.l0 k l x i) (H := fun _ i => some (convDecl (rd_T75 l (i : Int)))) (List.replicate l.length z76) (by simp)
    (fun k x i hx hi => by
      simp only [laws_toDeclS.l0, laws_toDecl.f, Option.bind_some]
      rw [if_pos (by omega), if_pos (by omega), if_pos (by omega), w64 (by omega) (by omega), Int.toNat_natCast]
      rfl)
    (fun i hi => by rw [rd_LDecl l i hi]; exact Ev.now _) (fun k x hx => by simp only [laws_toDeclS.l0]; rw [if_neg (by omega)])
  refine Ev.congr (fun k => ?_) h
  simp only [laws_toDeclS.f, Int.toNat_natCast]
  rw [if_pos (by omega), if_pos (by omega)]
theorem eqDeclS_f (l : List S76) (hl : l.length ≤ 1048576) : Ev (fun k => laws_eqDeclS.f k l l) true := by
  have h := all_all (n := l.length) (G := fun k i => laws_eqDeclS.l0 k l l i) (H := fun _ i => laws_eqDecl.f (rd_T76 l (i : Int)).f0 (rd_T76 l (i : Int)).f1 (rd_T76 l (i : Int)).f0 (rd_T76 l (i : Int)).f1)
    (fun k i hi => by simp only [laws_eqDeclS.l0]; rw [if_pos (by omega), if_pos (by omega), if_pos (by omega), w64 (by omega) (by omega)])
    (fun i hi => Ev.congr (fun k => eqDecl_f _) (Ev.now true)) (fun k => by simp only [laws_eqDeclS.l0]; rw [if_neg (by omega)])
  refine Ev.congr (fun k => ?_) h
  simp only [laws_eqDeclS.f]
  rw [if_pos trivial]
def pDecl (a : ByteArray) (d : S76) : Bool := d.f0.toList == a.toList
def rSpace (a : ByteArray) (o : Option S76) : ByteArray × Bool :=
  match o with
  | some d => (d.f1, true)
  | none => (⟨#[]⟩, a.toList == [])
def spaceOf (l : List S76) (a : ByteArray) : ByteArray × Bool := rSpace a (l.reverse.find? (pDecl a))
theorem spaceOf_impl (l : List S76) (a : ByteArray) : impl_SpaceOf.f l a = some (spaceOf l a) := by
  unfold impl_SpaceOf.f spaceOf rSpace pDecl
  cases l.reverse.find? (fun d => d.f0.toList == a.toList) <;> rfl
theorem spaceOf_l0 (l : List S76) (a : ByteArray) (hl : l.length ≤ 9223372036854775807) : ∀ i : Nat, i ≤ l.length → Ev (fun k => spec_SpaceOf.l0 k l a ((i : Int) - 1)) (rSpace a ((l.take i).reverse.find? (pDecl a))) := by
  intro i
  induction i with
  | zero =>
    intro _
    refine Ev.step (fun k => ?_) (Ev.now _)
    simp only [spec_SpaceOf.l0]
    rw [if_neg (by omega)]
    rfl
  | succ i ih =>
    intro hi
    have hrd := rd_IDecl l i (by omega)
    have e1 : ((i + 1 : Nat) : Int) - 1 = (i : Int) := by omega
    rw [e1, List.take_succ_eq_append_getElem (by omega), List.reverse_append]
    simp only [List.reverse_cons, List.reverse_nil, List.nil_append, List.cons_append]
    by_cases hp : l[i].f0.toList = a.toList
    · rw [List.find?_cons_of_pos (by unfold pDecl; simpa using hp)]
      refine Ev.step (fun k => ?_) (Ev.now _)
      simp only [spec_SpaceOf.l0]
      rw [if_pos (by omega), if_pos (by omega), if_pos (by omega), hrd, if_pos hp]
      rfl
    · rw [List.find?_cons_of_neg (by unfold pDecl; simpa using hp)]
      refine Ev.step (fun k => ?_) (ih (by omega))
      simp only [spec_SpaceOf.l0]
      rw [if_pos (by omega), if_pos (by omega), if_pos (by omega), hrd, if_neg hp, w64 (by omega) (by omega)]
theorem spaceOf_spec (l : List S76) (a : ByteArray) (hl : l.length ≤ 9223372036854775807) : Ev (fun k => spec_SpaceOf.f k l a) (spaceOf l a) := by
  have h := spaceOf_l0 l a hl l.length (Nat.le_refl _)
  rw [List.take_length] at h
  refine Ev.congr (fun k => ?_) h
  unfold spec_SpaceOf.f
  rw [w64 (by omega) (by omega)]
theorem FnExactSpaceOf : laws_FnExactSpaceOf.Pure := by
  intro l a hw ha
  by_cases ca : (a.size : Int) > 1048576
  · exact ⟨0, by simp only [laws_FnExactSpaceOf.f]; rw [if_pos ca]⟩
  obtain ⟨r, hr, hrw⟩ := szDeclS_f l hw 1048576 (by omega) (by omega)
  refine Ev.rounds (r := true) ?_
  refine Ev.congr (fun k => by simp only [laws_FnExactSpaceOf.f]; rw [if_neg ca]) (Ev.bind hr ?_)
  by_cases hn : r < 0
  · exact Ev.congr (fun k => by rw [if_pos hn]) (Ev.now _)
  have hs := sumOf_nonneg wDecl_nonneg l
  have hl : l.length ≤ 1048576 := by have := hrw (by omega); omega
  have ht := toDeclS_f l hl
  have hm : (l.map convDecl).length ≤ 1048576 := by simpa using hl
  refine Ev.congr (fun k => by rw [if_neg hn]) (Ev.bind ht (Ev.bind (spaceOf_spec (l.map convDecl) a (by omega)) (Ev.bind ht ?_)))
  rw [spaceOf_impl]
  have hb2 : ((spaceOf (l.map convDecl) a).2 != (spaceOf (l.map convDecl) a).2) = false := by simp
  simp only [Option.bind_some, hb2, if_true]
  refine Ev.step (fun k => by simp only [laws_FnExactSpaceOf.j0]; rw [if_neg (by simp)]) ?_
  exact Ev.bind ht (Ev.bind (eqDeclS_f _ hm) (Ev.congr (fun k => by rw [if_pos rfl]) (Ev.now true)))

end FnExactSpaceOf_
theorem FnExactSpaceOf : laws_FnExactSpaceOf.Pure := FnExactSpaceOf_.FnExactSpaceOf
end Go.Proofs.Ytehlkajccnmddaa.Pure
