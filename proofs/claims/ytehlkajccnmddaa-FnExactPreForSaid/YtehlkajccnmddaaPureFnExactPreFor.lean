/- The program's PreFor (a closure over SpaceOf) and the reference's loop answer alike at every list, space and bool; the list reads as it did.
Conditions: none. -/
import Derived.Test.YtehlkajccnmddaaSaidFnExactPreFor
import Derived.Lib.Strings
import Derived.Test.YtehlkajccnmddaaLists
namespace Go.Proofs.Ytehlkajccnmddaa.Pure
open Go.RowKit Go.Proofs.Ytehlkajccnmddaa.PP Go.Proofs.YtehlkajccnmddaaW.PrintWords Go.Proofs.YtehlkajccnmddaaW.PrintLast Go.Proofs.Ytehlkajccnmddaa.Lists
set_option linter.unusedVariables false
set_option linter.unusedSimpArgs false

namespace FnExactPreFor_
theorem rd_LDecl (l : List S75) (i : Nat) (h : i < l.length) : rd_T75 l (i : Int) = l[i] := by simp [rd_T75, List.getD_eq_getElem?_getD, List.getElem?_eq_getElem h]
theorem rd_IDecl (l : List S76) (i : Nat) (h : i < l.length) : rd_T76 l (i : Int) = l[i] := by simp [rd_T76, List.getD_eq_getElem?_getD, List.getElem?_eq_getElem h]
def convDecl (x : S75) : S76 := ⟨x.f0, x.f1⟩
theorem eqDecl_f (x : S76) : laws_eqDecl.f x.f0 x.f1 x.f0 x.f1 = some true := by
  unfold laws_eqDecl.f
  simp
def wDecl (x : S75) : Int := (x.f0.size : Int) + (x.f1.size : Int)
theorem wDecl_nonneg (x : S75) : 0 ≤ wDecl x := by unfold wDecl; omega
theorem szDecl_f (x : S75) (left : Int) (hw : WF75 x) (h0 : 0 ≤ left) (h1 : left ≤ 1048576) : ∃ r, laws_szDecl.f x.f0 x.f1 left = some r ∧ (0 ≤ r → r + wDecl x = left) := by
  obtain ⟨h_0, h_1⟩ := hw
  unfold maxLen at h_0 h_1
  unfold laws_szDecl.f wrap64 wDecl
  split
  · exact ⟨_, rfl, by omega⟩
  split
  · exact ⟨_, rfl, by omega⟩
  exact ⟨_, rfl, fun _ => by omega⟩
theorem szDeclS_f (l : List S75) (hw : l.length ≤ maxLen ∧ ∀ x ∈ l, WF75 x) (left : Int) (h0 : 0 ≤ left) (h1 : left ≤ 1048576) : ∃ r, Ev (fun k => laws_szDeclS.f k l left) r ∧ (0 ≤ r → r + ((l.length : Int) + sumOf wDecl l) = left) := by
  obtain ⟨hl, hw⟩ := hw
  unfold maxLen at hl
  have e : wrap64 (left - (l.length : Int)) = left - (l.length : Int) := w64 (by omega) (by omega)
  by_cases hn : left - (l.length : Int) < 0
  · exact ⟨-1, Ev.congr (fun k => by simp only [laws_szDeclS.f]; rw [e, if_pos hn]) (Ev.now _), fun h => by omega⟩
  · obtain ⟨r, hr, hrw⟩ := size_all (l := l) (w := wDecl) (M := 1048576) (G := fun k left i => laws_szDeclS.l0 k l left i) (H := fun _ left i => laws_szDecl.f (rd_T75 l (i : Int)).f0 (rd_T75 l (i : Int)).f1 left) wDecl_nonneg
      (fun k left i h0 hi => by simp only [laws_szDeclS.l0]; rw [if_pos (by omega), if_pos (by omega), w64 (by omega) (by omega)])
      (fun i hi left h0 h1 => by
        obtain ⟨r, a, b⟩ := szDecl_f l[i] left (hw _ (List.getElem_mem hi)) h0 h1
        exact ⟨r, Ev.congr (fun k => by rw [rd_LDecl l i hi]; exact a) (Ev.now r), b⟩)
      (fun k left h0 => by simp only [laws_szDeclS.l0]; rw [if_neg (by omega)]) (left - (l.length : Int)) (by omega) (by omega)
    exact ⟨r, Ev.congr (fun k => by simp only [laws_szDeclS.f]; rw [e, if_neg hn]) hr, fun h => by have := hrw h; omega⟩
theorem toDeclS_f (l : List S75) (hl : l.length ≤ 1048576) : Ev (fun k => laws_toDeclS.f k l) (l.map convDecl) := by
  have h := copy_all (l := l) (f := convDecl) (G := fun k x i => laws_toDeclS.l0 k l x i) (H := fun _ i => some (convDecl (rd_T75 l (i : Int)))) (List.replicate l.length z76) (by simp)
    (fun k x i hx hi => by
      simp only [laws_toDeclS.l0, laws_toDecl.f, Option.bind_some]
      rw [if_pos (by omega), if_pos (by omega), if_pos (by omega), w64 (by omega) (by omega), Int.toNat_natCast]
      rfl)
    (fun i hi => by rw [rd_LDecl l i hi]; exact Ev.now _) (fun k x hx => by simp only [laws_toDeclS.l0]; rw [if_neg (by omega)])
  refine Ev.congr (fun k => ?_) h
  simp only [laws_toDeclS.f, Int.toNat_natCast]
  rw [if_pos (by omega), if_pos (by omega)]
theorem eqDeclS_f (l : List S76) (hl : l.length ≤ 1048576) : Ev (fun k => laws_eqDeclS.f k l l) true := by
  have h := all_all (n := l.length) (G := fun k i => laws_eqDeclS.l0 k l l i) (H := fun _ i => laws_eqDecl.f (rd_T76 l (i : Int)).f0 (rd_T76 l (i : Int)).f1 (rd_T76 l (i : Int)).f0 (rd_T76 l (i : Int)).f1)
    (fun k i hi => by simp only [laws_eqDeclS.l0]; rw [if_pos (by omega), if_pos (by omega), if_pos (by omega), w64 (by omega) (by omega)])
    (fun i hi => Ev.congr (fun k => eqDecl_f _) (Ev.now true)) (fun k => by simp only [laws_eqDeclS.l0]; rw [if_neg (by omega)])
  refine Ev.congr (fun k => ?_) h
  simp only [laws_eqDeclS.f]
  rw [if_pos trivial]
def pDecl (a : ByteArray) (d : S76) : Bool := d.f0.toList == a.toList
def rSpace (a : ByteArray) (o : Option S76) : ByteArray × Bool :=
  match o with
  | some d => (d.f1, true)
  | none => (⟨#[]⟩, a.toList == [])
def spaceOf (l : List S76) (a : ByteArray) : ByteArray × Bool := rSpace a (l.reverse.find? (pDecl a))
theorem spaceOf_impl (l : List S76) (a : ByteArray) : impl_SpaceOf.f l a = some (spaceOf l a) := by
  unfold impl_SpaceOf.f spaceOf rSpace pDecl
  cases l.reverse.find? (fun d => d.f0.toList == a.toList) <;> rfl
theorem spaceOf_l0 (l : List S76) (a : ByteArray) (hl : l.length ≤ 9223372036854775807) : ∀ i : Nat, i ≤ l.length → Ev (fun k => spec_SpaceOf.l0 k l a ((i : Int) - 1)) (rSpace a ((l.take i).reverse.find? (pDecl a))) := by
  intro i
  induction i with
  | zero =>
    intro _
    refine Ev.step (fun k => ?_) (Ev.now _)
    simp only [spec_SpaceOf.l0]
    rw [if_neg (by omega)]
    rfl
  | succ i ih =>
    intro hi
    have hrd := rd_IDecl l i (by omega)
    have e1 : ((i + 1 : Nat) : Int) - 1 = (i : Int) := by omega
    rw [e1, List.take_succ_eq_append_getElem (by omega), List.reverse_append]
    simp only [List.reverse_cons, List.reverse_nil, List.nil_append, List.cons_append]
    by_cases hp : l[i].f0.toList = a.toList
    · rw [List.find?_cons_of_pos (by unfold pDecl; simpa using hp)]
      refine Ev.step (fun k => ?_) (Ev.now _)
      simp only [spec_SpaceOf.l0]
      rw [if_pos (by omega), if_pos (by omega), if_pos (by omega), hrd, if_pos hp]
      rfl
    · rw [List.find?_cons_of_neg (by unfold pDecl; simpa using hp)]
      refine Ev.step (fun k => ?_) (ih (by omega))
      simp only [spec_SpaceOf.l0]
      rw [if_pos (by omega), if_pos (by omega), if_pos (by omega), hrd, if_neg hp, w64 (by omega) (by omega)]
theorem spaceOf_spec (l : List S76) (a : ByteArray) (hl : l.length ≤ 9223372036854775807) : Ev (fun k => spec_SpaceOf.f k l a) (spaceOf l a) := by
  have h := spaceOf_l0 l a hl l.length (Nat.le_refl _)
  rw [List.take_length] at h
  refine Ev.congr (fun k => ?_) h
  unfold spec_SpaceOf.f
  rw [w64 (by omega) (by omega)]
theorem means_eq (l : List S76) (u a : ByteArray) : impl_PreFor.means l u a = ((spaceOf l a).2 && ((spaceOf l a).1.toList == u.toList)) := by
  unfold impl_PreFor.means
  rw [spaceOf_impl]
theorem space_bare (l : List S76) : (spaceOf l ⟨#[]⟩).2 = true := by
  unfold spaceOf
  cases l.reverse.find? (pDecl ⟨#[]⟩) with
  | some d => rfl
  | none => show ((⟨#[]⟩ : ByteArray).toList == []) = true; rw [Go.Lib.toList_data]; rfl
def rPre (o : Option S76) : ByteArray × Bool :=
  match o with
  | some d => (d.f0, true)
  | none => (⟨#[]⟩, false)
theorem preFor_l0 (l : List S76) (u : ByteArray) (hl : l.length ≤ 1048576) (d : Nat) : ∀ i : Nat, i ≤ l.length → l.length - i = d → Ev (fun k => spec_PreFor.l0 k l u (i : Int)) (rPre ((l.drop i).find? (impl_PreFor.p l u))) := by
  induction d with
  | zero =>
    intro i hi hd
    refine Ev.step (fun k => ?_) (Ev.now _)
    simp only [spec_PreFor.l0]
    rw [if_neg (by omega), List.drop_eq_nil_of_le (by omega)]
    rfl
  | succ d ih =>
    intro i hi hd
    have hlt : i < l.length := by omega
    have hrd := rd_IDecl l i hlt
    have ih' := ih (i + 1) (by omega) (by omega)
    have w1 : wrap64 ((i : Int) + 1) = ((i + 1 : Nat) : Int) := by rw [w64 (by omega) (by omega)]; omega
    rw [List.drop_eq_getElem_cons hlt]
    have hs := spaceOf_spec l l[i].f0 (by omega)
    have hp : impl_PreFor.p l u l[i] = (!(l[i].f0.toList == []) && ((spaceOf l l[i].f0).2 && ((spaceOf l l[i].f0).1.toList == u.toList))) := by
      unfold impl_PreFor.p
      rw [means_eq]
    by_cases he : l[i].f0.toList = []
    · rw [List.find?_cons_of_neg (by rw [hp, he]; simp)]
      refine Ev.step (fun k => ?_) ih'
      simp only [spec_PreFor.l0]
      rw [if_pos (by omega), if_pos (by omega), hrd, if_pos he, w1]
    · have hst : ∀ k, spec_PreFor.l0 (k + 1) l u (i : Int) = (spec_SpaceOf.f k l l[i].f0).bind fun bt => (if bt.2 = true then (if bt.1.toList = u.toList then (some (l[i].f0, true)) else (spec_PreFor.l0 k l u ((i + 1 : Nat) : Int))) else (spec_PreFor.l0 k l u ((i + 1 : Nat) : Int))) := fun k => by
        simp only [spec_PreFor.l0]
        rw [if_pos (by omega), if_pos (by omega), hrd, if_neg he, w1]
      by_cases h2 : (spaceOf l l[i].f0).2 = true
      · by_cases h1 : (spaceOf l l[i].f0).1.toList = u.toList
        · rw [List.find?_cons_of_pos (by rw [hp, h2, h1]; simp [he])]
          exact Ev.step hst (Ev.bind hs (Ev.congr (fun k => by rw [if_pos h2, if_pos h1]; rfl) (Ev.now _)))
        · rw [List.find?_cons_of_neg (by rw [hp, h2]; simp [h1])]
          exact Ev.step hst (Ev.bind hs (Ev.congr (fun k => by rw [if_pos h2, if_neg h1]) ih'))
      · rw [List.find?_cons_of_neg (by rw [hp]; simp [h2])]
        exact Ev.step hst (Ev.bind hs (Ev.congr (fun k => by rw [if_neg h2]) ih'))
def preFor (l : List S76) (u : ByteArray) (b : Bool) : ByteArray × Bool :=
  if (b && impl_PreFor.means l u ⟨#[]⟩) = true then (⟨#[]⟩, true) else rPre (l.find? (impl_PreFor.p l u))
theorem preFor_impl (l : List S76) (u : ByteArray) (b : Bool) : impl_PreFor.f l u b = some (preFor l u b) := by
  unfold impl_PreFor.f preFor rPre
  split
  · rfl
  · cases l.find? (impl_PreFor.p l u) <;> rfl
theorem preFor_spec (l : List S76) (u : ByteArray) (b : Bool) (hl : l.length ≤ 1048576) : Ev (fun k => spec_PreFor.f k l u b) (preFor l u b) := by
  have h0 : Ev (fun k => spec_PreFor.j0 k l u) (rPre (l.find? (impl_PreFor.p l u))) := Ev.step (fun k => by simp only [spec_PreFor.j0]; rfl) (preFor_l0 l u hl l.length 0 (by omega) (by omega))
  unfold preFor
  rw [means_eq, space_bare]
  cases b with
  | false => exact Ev.congr (fun k => by simp only [spec_PreFor.f]; rw [if_neg (by simp)]) (by simpa using h0)
  | true =>
    refine Ev.congr (fun k => by unfold spec_PreFor.f; rw [if_pos rfl]) (Ev.bind (spaceOf_spec l ⟨#[]⟩ (by omega)) ?_)
    by_cases h1 : (spaceOf l ⟨#[]⟩).1.toList = u.toList
    · exact Ev.congr (fun k => by rw [if_pos h1]) (by rw [if_pos (by simpa using h1)]; exact Ev.now _)
    · exact Ev.congr (fun k => by rw [if_neg h1]) (by rw [if_neg (by simpa using h1)]; exact h0)
theorem FnExactPreFor : laws_FnExactPreFor.Pure := by
  intro l u b hw hu
  by_cases ca : (u.size : Int) > 1048576
  · exact ⟨0, by simp only [laws_FnExactPreFor.f]; rw [if_pos ca]⟩
  obtain ⟨r, hr, hrw⟩ := szDeclS_f l hw 1048576 (by omega) (by omega)
  refine Ev.rounds (r := true) ?_
  refine Ev.congr (fun k => by simp only [laws_FnExactPreFor.f]; rw [if_neg ca]) (Ev.bind hr ?_)
  by_cases hn : r < 0
  · exact Ev.congr (fun k => by rw [if_pos hn]) (Ev.now _)
  have hs := sumOf_nonneg wDecl_nonneg l
  have hl : l.length ≤ 1048576 := by have := hrw (by omega); omega
  have ht := toDeclS_f l hl
  have hm : (l.map convDecl).length ≤ 1048576 := by simpa using hl
  refine Ev.congr (fun k => by rw [if_neg hn]) (Ev.bind ht (Ev.bind (preFor_spec (l.map convDecl) u b hm) (Ev.bind ht ?_)))
  rw [preFor_impl]
  have hb2 : ((preFor (l.map convDecl) u b).2 != (preFor (l.map convDecl) u b).2) = false := by simp
  simp only [Option.bind_some, hb2, if_true]
  refine Ev.step (fun k => by simp only [laws_FnExactPreFor.j0]; rw [if_neg (by simp)]) ?_
  exact Ev.bind ht (Ev.bind (eqDeclS_f _ hm) (Ev.congr (fun k => by rw [if_pos rfl]) (Ev.now true)))

end FnExactPreFor_
theorem FnExactPreFor : laws_FnExactPreFor.Pure := FnExactPreFor_.FnExactPreFor
end Go.Proofs.Ytehlkajccnmddaa.Pure
