/- The program's Places and the reference's answer alike at every tree; the tree reads as it did; what it hands back is memory of its own, all rows apart.
Conditions: none. -/
import Derived.Test.YtdbinpeglamnnaaSaidFnExactPlaces
import Derived.Test.YtdbinpeglamnnaaLists
namespace Go.Proofs.Ytdbinpeglamnnaa.Pure
open Go.RowKit Go.Proofs.Ytdbinpeglamnnaa.PP Go.Proofs.YtdbinpeglamnnaaW.PrintWords Go.Proofs.YtdbinpeglamnnaaW.PrintLast Go.Proofs.Ytdbinpeglamnnaa.Lists
set_option linter.unusedVariables false
set_option linter.unusedSimpArgs false

namespace FnExactPlaces_
theorem w64 {i : Int} (h0 : -9223372036854775808 ≤ i) (h1 : i ≤ 9223372036854775807) : wrap64 i = i := by unfold wrap64; omega
theorem rd_nat (l : List Int) (i : Nat) : rd l (i : Int) = l.getD i 0 := by simp [rd]
theorem eqIntS_l (l : List Int) (hl : l.length ≤ 1048576) (d : Nat) : ∀ (i : Nat), i ≤ l.length → l.length - i = d → Ev (fun k => laws_eqIntS.l0 k l l (i : Int)) true := by
 induction d with
 | zero =>
  intro i hi hd
  refine Ev.step (fun k => ?_) (Ev.now true)
  simp only [laws_eqIntS.l0]
  rw [if_neg (by omega)]
 | succ d ih =>
  intro i hi hd
  refine Ev.step (fun k => ?_) (ih (i + 1) (by omega) (by omega))
  simp only [laws_eqIntS.l0]
  rw [if_pos (by omega), if_pos (by omega), if_pos (by omega), if_pos trivial, w64 (by omega) (by omega)]
  simp
theorem eqIntS_f (l : List Int) (hl : l.length ≤ 1048576) : Ev (fun k => laws_eqIntS.f k l l) true := by
 refine Ev.congr (fun k => ?_) (eqIntS_l l hl l.length 0 (by omega) (by omega))
 simp only [laws_eqIntS.f]
 rw [if_pos trivial]
 simp
def sameFrom (a b : List Int) (i n : Nat) : Prop := ∀ j, i ≤ j → j < n → a.getD j 0 = b.getD j 0
theorem rd_LDecl (l : List S84) (i : Nat) (h : i < l.length) : rd_T84 l (i : Int) = l[i] := by simp [rd_T84, List.getD_eq_getElem?_getD, List.getElem?_eq_getElem h]
def cDe (x : S84) : S88 := ⟨x.f0, x.f1⟩
theorem eqDecl_f (x : S88) : laws_eqDecl.f x.f0 x.f1 x.f0 x.f1 = some true := by
 unfold laws_eqDecl.f
 simp
def wDecl (x : S84) : Int := (x.f0.size : Int) + (x.f1.size : Int)
theorem wDecl_n (x : S84) : 0 ≤ wDecl x := by unfold wDecl; omega
theorem szDecl_f (x : S84) (left : Int) (hw : WF84 x) (h0 : 0 ≤ left) (h1 : left ≤ 1048576) : ∃ r, laws_szDecl.f x.f0 x.f1 left = some r ∧ (0 ≤ r → r + wDecl x = left) := by
 obtain ⟨h_0, h_1⟩ := hw
 unfold maxLen at h_0 h_1
 unfold laws_szDecl.f wrap64 wDecl
 split
 ·exact ⟨_, rfl, by omega⟩
 split
 ·exact ⟨_, rfl, by omega⟩
 exact ⟨_, rfl, fun _ => by omega⟩
theorem szDeclS_f (l : List S84) (hw : l.length ≤ maxLen ∧ ∀ x ∈ l, WF84 x) (left : Int) (h0 : 0 ≤ left) (h1 : left ≤ 1048576) : ∃ r, Ev (fun k => laws_szDeclS.f k l left) r ∧ (0 ≤ r → r + ((l.length : Int) + sumOf wDecl l) = left) := by
 obtain ⟨hl, hw⟩ := hw
 unfold maxLen at hl
 have e : wrap64 (left - (l.length : Int)) = left - (l.length : Int) := w64 (by omega) (by omega)
 by_cases hn : left - (l.length : Int) < 0
 ·exact ⟨-1, Ev.congr (fun k => by simp only [laws_szDeclS.f]; rw [e, if_pos hn]) (Ev.now _), fun h => by omega⟩
 ·obtain ⟨r, hr, hrw⟩ := size_all (l := l) (w := wDecl) (M := 1048576) (G := fun k left i => laws_szDeclS.l0 k l left i) (H := fun _ left i => laws_szDecl.f (rd_T84 l (i : Int)).f0 (rd_T84 l (i : Int)).f1 left) wDecl_n
   (fun k left i h0 hi => by simp only [laws_szDeclS.l0]; rw [if_pos (by omega), if_pos (by omega), w64 (by omega) (by omega)])
   (fun i hi left h0 h1 => by
    obtain ⟨r, a, b⟩ := szDecl_f l[i] left (hw _ (List.getElem_mem hi)) h0 h1
    exact ⟨r, Ev.congr (fun k => by rw [rd_LDecl l i hi]; exact a) (Ev.now r), b⟩)
   (fun k left h0 => by simp only [laws_szDeclS.l0]; rw [if_neg (by omega)]) (left - (l.length : Int)) (by omega) (by omega)
  exact ⟨r, Ev.congr (fun k => by simp only [laws_szDeclS.f]; rw [e, if_neg hn]) hr, fun h => by have := hrw h; omega⟩
theorem toDeclS_f (l : List S84) (hl : l.length ≤ 1048576) : Ev (fun k => laws_toDeclS.f k l) (l.map cDe) := by
 have h := copy_all (l := l) (f := cDe) (G := fun k x i => laws_toDeclS.l0 k l x i) (H := fun _ i => some (cDe (rd_T84 l (i : Int)))) (List.replicate l.length z88) (by simp)
  (fun k x i hx hi => by
   simp only [laws_toDeclS.l0, laws_toDecl.f, Option.bind_some]
   rw [if_pos (by omega), if_pos (by omega), if_pos (by omega), w64 (by omega) (by omega), Int.toNat_natCast]
   rfl)
  (fun i hi => by rw [rd_LDecl l i hi]; exact Ev.now _) (fun k x hx => by simp only [laws_toDeclS.l0]; rw [if_neg (by omega)])
 refine Ev.congr (fun k => ?_) h
 simp only [laws_toDeclS.f, Int.toNat_natCast]
 rw [if_pos (by omega), if_pos (by omega)]
theorem eqDeclS_f (l : List S88) (hl : l.length ≤ 1048576) : Ev (fun k => laws_eqDeclS.f k l l) true := by
 have h := all_all (n := l.length) (G := fun k i => laws_eqDeclS.l0 k l l i) (H := fun _ i => laws_eqDecl.f (rd_T88 l (i : Int)).f0 (rd_T88 l (i : Int)).f1 (rd_T88 l (i : Int)).f0 (rd_T88 l (i : Int)).f1)
  (fun k i hi => by simp only [laws_eqDeclS.l0]; rw [if_pos (by omega), if_pos (by omega), if_pos (by omega), w64 (by omega) (by omega)])
  (fun i hi => Ev.congr (fun k => eqDecl_f _) (Ev.now true)) (fun k => by simp only [laws_eqDeclS.l0]; rw [if_neg (by omega)])
 refine Ev.congr (fun k => ?_) h
 simp only [laws_eqDeclS.f]
 rw [if_pos trivial]
theorem rd_LAttr (l : List S87) (i : Nat) (h : i < l.length) : rd_T87 l (i : Int) = l[i] := by simp [rd_T87, List.getD_eq_getElem?_getD, List.getElem?_eq_getElem h]
def cAt (x : S87) : S90 := ⟨x.f0, x.f1, x.f2, x.f3⟩
theorem eqAttr_f (x : S90) : laws_eqAttr.f x.f0 x.f1 x.f2 x.f3 x.f0 x.f1 x.f2 x.f3 = some true := by
 unfold laws_eqAttr.f
 simp
def wAttr (x : S87) : Int := (x.f0.size : Int) + (x.f1.size : Int) + (x.f2.size : Int) + (x.f3.size : Int)
theorem wAttr_n (x : S87) : 0 ≤ wAttr x := by unfold wAttr; omega
theorem szAttr_f (x : S87) (left : Int) (hw : WF87 x) (h0 : 0 ≤ left) (h1 : left ≤ 1048576) : ∃ r, laws_szAttr.f x.f0 x.f1 x.f2 x.f3 left = some r ∧ (0 ≤ r → r + wAttr x = left) := by
 obtain ⟨h_0, h_1, h_2, h_3⟩ := hw
 unfold maxLen at h_0 h_1 h_2 h_3
 unfold laws_szAttr.f wrap64 wAttr
 split
 ·exact ⟨_, rfl, by omega⟩
 split
 ·exact ⟨_, rfl, by omega⟩
 split
 ·exact ⟨_, rfl, by omega⟩
 split
 ·exact ⟨_, rfl, by omega⟩
 exact ⟨_, rfl, fun _ => by omega⟩
theorem szAttrS_f (l : List S87) (hw : l.length ≤ maxLen ∧ ∀ x ∈ l, WF87 x) (left : Int) (h0 : 0 ≤ left) (h1 : left ≤ 1048576) : ∃ r, Ev (fun k => laws_szAttrS.f k l left) r ∧ (0 ≤ r → r + ((l.length : Int) + sumOf wAttr l) = left) := by
 obtain ⟨hl, hw⟩ := hw
 unfold maxLen at hl
 have e : wrap64 (left - (l.length : Int)) = left - (l.length : Int) := w64 (by omega) (by omega)
 by_cases hn : left - (l.length : Int) < 0
 ·exact ⟨-1, Ev.congr (fun k => by simp only [laws_szAttrS.f]; rw [e, if_pos hn]) (Ev.now _), fun h => by omega⟩
 ·obtain ⟨r, hr, hrw⟩ := size_all (l := l) (w := wAttr) (M := 1048576) (G := fun k left i => laws_szAttrS.l0 k l left i) (H := fun _ left i => laws_szAttr.f (rd_T87 l (i : Int)).f0 (rd_T87 l (i : Int)).f1 (rd_T87 l (i : Int)).f2 (rd_T87 l (i : Int)).f3 left) wAttr_n
   (fun k left i h0 hi => by simp only [laws_szAttrS.l0]; rw [if_pos (by omega), if_pos (by omega), w64 (by omega) (by omega)])
   (fun i hi left h0 h1 => by
    obtain ⟨r, a, b⟩ := szAttr_f l[i] left (hw _ (List.getElem_mem hi)) h0 h1
    exact ⟨r, Ev.congr (fun k => by rw [rd_LAttr l i hi]; exact a) (Ev.now r), b⟩)
   (fun k left h0 => by simp only [laws_szAttrS.l0]; rw [if_neg (by omega)]) (left - (l.length : Int)) (by omega) (by omega)
  exact ⟨r, Ev.congr (fun k => by simp only [laws_szAttrS.f]; rw [e, if_neg hn]) hr, fun h => by have := hrw h; omega⟩
theorem toAttrS_f (l : List S87) (hl : l.length ≤ 1048576) : Ev (fun k => laws_toAttrS.f k l) (l.map cAt) := by
 have h := copy_all (l := l) (f := cAt) (G := fun k x i => laws_toAttrS.l0 k l x i) (H := fun _ i => some (cAt (rd_T87 l (i : Int)))) (List.replicate l.length z90) (by simp)
  (fun k x i hx hi => by
   simp only [laws_toAttrS.l0, laws_toAttr.f, Option.bind_some]
   rw [if_pos (by omega), if_pos (by omega), if_pos (by omega), w64 (by omega) (by omega), Int.toNat_natCast]
   rfl)
  (fun i hi => by rw [rd_LAttr l i hi]; exact Ev.now _) (fun k x hx => by simp only [laws_toAttrS.l0]; rw [if_neg (by omega)])
 refine Ev.congr (fun k => ?_) h
 simp only [laws_toAttrS.f, Int.toNat_natCast]
 rw [if_pos (by omega), if_pos (by omega)]
theorem eqAttrS_f (l : List S90) (hl : l.length ≤ 1048576) : Ev (fun k => laws_eqAttrS.f k l l) true := by
 have h := all_all (n := l.length) (G := fun k i => laws_eqAttrS.l0 k l l i) (H := fun _ i => laws_eqAttr.f (rd_T90 l (i : Int)).f0 (rd_T90 l (i : Int)).f1 (rd_T90 l (i : Int)).f2 (rd_T90 l (i : Int)).f3 (rd_T90 l (i : Int)).f0 (rd_T90 l (i : Int)).f1 (rd_T90 l (i : Int)).f2 (rd_T90 l (i : Int)).f3)
  (fun k i hi => by simp only [laws_eqAttrS.l0]; rw [if_pos (by omega), if_pos (by omega), if_pos (by omega), w64 (by omega) (by omega)])
  (fun i hi => Ev.congr (fun k => eqAttr_f _) (Ev.now true)) (fun k => by simp only [laws_eqAttrS.l0]; rw [if_neg (by omega)])
 refine Ev.congr (fun k => ?_) h
 simp only [laws_eqAttrS.f]
 rw [if_pos trivial]
theorem rd_LNode (l : List S26) (i : Nat) (h : i < l.length) : rd_T26 l (i : Int) = l[i] := by simp [rd_T26, List.getD_eq_getElem?_getD, List.getElem?_eq_getElem h]
theorem rd_INode (l : List S34) (i : Nat) (h : i < l.length) : rd_T34 l (i : Int) = l[i] := by simp [rd_T34, List.getD_eq_getElem?_getD, List.getElem?_eq_getElem h]
theorem kidL (x y : S26) (h : y ∈ x.f6) : SizeOf.sizeOf y < SizeOf.sizeOf x := by
 have := List.sizeOf_lt_of_mem h
 cases x
 simp at this ⊢
 omega
theorem kidI (x y : S34) (h : y ∈ x.f6) : SizeOf.sizeOf y < SizeOf.sizeOf x := by
 have := List.sizeOf_lt_of_mem h
 cases x
 simp at this ⊢
 omega
theorem indL {P : S26 → Prop} (h : ∀ x, (∀ y ∈ x.f6, P y) → P x) (x : S26) : P x := by
 have : ∀ n (x : S26), SizeOf.sizeOf x < n → P x := by
  intro n
  induction n with
  | zero => intro x hx; omega
  | succ n ih => intro x hx; exact h x (fun y hy => ih y (by have := kidL x y hy; omega))
 exact this _ x (Nat.lt_succ_self _)
theorem indI {P : S34 → Prop} (h : ∀ x, (∀ y ∈ x.f6, P y) → P x) (x : S34) : P x := by
 have : ∀ n (x : S34), SizeOf.sizeOf x < n → P x := by
  intro n
  induction n with
  | zero => intro x hx; omega
  | succ n ih => intro x hx; exact h x (fun y hy => ih y (by have := kidI x y hy; omega))
 exact this _ x (Nat.lt_succ_self _)
mutual
def wNode : S26 → Int
 | ⟨_, a, b, c, ds, ats, ks, t⟩ => (a.size : Int) + (b.size : Int) + (c.size : Int) + ((ds.length : Int) + sumOf wDecl ds) + ((ats.length : Int) + sumOf wAttr ats) + ((ks.length : Int) + wNodes ks) + (t.size : Int)
def wNodes : List S26 → Int
 | [] => 0
 | x :: xs => wNode x + wNodes xs
end
theorem wNodes_eq (l : List S26) : wNodes l = sumOf wNode l := by
 induction l with
 | nil => rfl
 | cons x l ih => rw [sumOf_cons, ← ih]; rfl
theorem wNode_eq (x : S26) : wNode x = (x.f1.size : Int) + (x.f2.size : Int) + (x.f3.size : Int) + ((x.f4.length : Int) + sumOf wDecl x.f4) + ((x.f5.length : Int) + sumOf wAttr x.f5) + ((x.f6.length : Int) + sumOf wNode x.f6) + (x.f7.size : Int) := by
 cases x
 rw [wNode, wNodes_eq]
theorem sum_nonneg_of {α : Type} {w : α → Int} {l : List α} (h : ∀ x ∈ l, 0 ≤ w x) : 0 ≤ sumOf w l := by
 induction l with
 | nil => exact Int.le_refl _
 | cons z m ihm => rw [sumOf_cons]; have := h z (List.mem_cons_self ..); have := ihm (fun x hx => h x (List.mem_cons_of_mem _ hx)); omega
theorem wNode_n (x : S26) : 0 ≤ wNode x := by
 induction x using indL with
 | h x ih =>
  rw [wNode_eq]
  have := sumOf_nonneg wDecl_n x.f4
  have := sumOf_nonneg wAttr_n x.f5
  have := sum_nonneg_of ih
  omega
theorem wNode_bounds (x : S26) : (x.f4.length : Int) ≤ wNode x ∧ (x.f5.length : Int) ≤ wNode x ∧ (x.f6.length : Int) ≤ wNode x ∧ sumOf wNode x.f6 ≤ wNode x ∧ ∀ y ∈ x.f6, wNode y ≤ wNode x := by
 rw [wNode_eq]
 have := sumOf_nonneg wDecl_n x.f4
 have := sumOf_nonneg wAttr_n x.f5
 have := sumOf_nonneg wNode_n x.f6
 refine ⟨by omega, by omega, by omega, by omega, fun y hy => ?_⟩
 have := sumOf_mem wNode_n hy
 omega
mutual
def cNo : S26 → S34
 | ⟨k, a, b, c, ds, ats, ks, t⟩ => ⟨k, a, b, c, ds.map cDe, ats.map cAt, cNos ks, t⟩
def cNos : List S26 → List S34
 | [] => []
 | x :: xs => cNo x :: cNos xs
end
theorem convNodes_eq (l : List S26) : cNos l = l.map cNo := by
 induction l with
 | nil => rfl
 | cons x l ih => rw [List.map_cons, ← ih]; rfl
theorem convNode_eq (x : S26) : cNo x = ⟨x.f0, x.f1, x.f2, x.f3, x.f4.map cDe, x.f5.map cAt, x.f6.map cNo, x.f7⟩ := by
 cases x
 rw [cNo, convNodes_eq]
mutual
def vNode : S34 → Int
 | ⟨_, _, _, _, ds, ats, ks, _⟩ => (ds.length : Int) + (ats.length : Int) + ((ks.length : Int) + vNodes ks)
def vNodes : List S34 → Int
 | [] => 0
 | x :: xs => vNode x + vNodes xs
end
theorem vNodes_eq (l : List S34) : vNodes l = sumOf vNode l := by
 induction l with
 | nil => rfl
 | cons x l ih => rw [sumOf_cons, ← ih]; rfl
theorem vNode_eq (x : S34) : vNode x = (x.f4.length : Int) + (x.f5.length : Int) + ((x.f6.length : Int) + sumOf vNode x.f6) := by
 cases x
 rw [vNode, vNodes_eq]
theorem vNode_n (x : S34) : 0 ≤ vNode x := by
 induction x using indI with
 | h x ih =>
  rw [vNode_eq]
  have := sum_nonneg_of ih
  omega
theorem vNode_bounds (x : S34) : (x.f4.length : Int) ≤ vNode x ∧ (x.f5.length : Int) ≤ vNode x ∧ (x.f6.length : Int) ≤ vNode x ∧ sumOf vNode x.f6 ≤ vNode x ∧ ∀ y ∈ x.f6, vNode y ≤ vNode x := by
 rw [vNode_eq]
 have := sumOf_nonneg vNode_n x.f6
 refine ⟨by omega, by omega, by omega, by omega, fun y hy => ?_⟩
 have := sumOf_mem vNode_n hy
 omega
theorem sumOf_map_le {α β : Type} {f : α → β} {v : β → Int} {w : α → Int} {l : List α} (h : ∀ x ∈ l, v (f x) ≤ w x) : sumOf v (l.map f) ≤ sumOf w l := by
 induction l with
 | nil => exact Int.le_refl _
 | cons z m ihm => rw [List.map_cons, sumOf_cons, sumOf_cons]; have := h z (List.mem_cons_self ..); have := ihm (fun x hx => h x (List.mem_cons_of_mem _ hx)); omega
theorem vNode_conv (x : S26) : vNode (cNo x) ≤ wNode x := by
 induction x using indL with
 | h x ih =>
  rw [wNode_eq, convNode_eq, vNode_eq]
  have := sumOf_nonneg wDecl_n x.f4
  have := sumOf_nonneg wAttr_n x.f5
  have := sumOf_map_le ih
  simp only [List.length_map]
  omega
theorem szNodeS_of (l : List S26) (hl : l.length ≤ maxLen) (hx : ∀ x ∈ l, ∀ left, 0 ≤ left → left ≤ 1048576 → ∃ r, Ev (fun k => laws_szNode.f k x.f0 x.f1 x.f2 x.f3 x.f4 x.f5 x.f6 x.f7 left) r ∧ (0 ≤ r → r + wNode x = left)) (left : Int) (h0 : 0 ≤ left) (h1 : left ≤ 1048576) :
  ∃ r, Ev (fun k => laws_szNodeS.f k l left) r ∧ (0 ≤ r → r + ((l.length : Int) + sumOf wNode l) = left) := by
 unfold maxLen at hl
 have e : wrap64 (left - (l.length : Int)) = left - (l.length : Int) := w64 (by omega) (by omega)
 by_cases hn : left - (l.length : Int) < 0
 ·exact ⟨-1, Ev.step (fun k => by simp only [laws_szNodeS.f]; rw [e, if_pos hn]) (Ev.now _), fun h => by omega⟩
 ·obtain ⟨r, hr, hrw⟩ := size_all (l := l) (w := wNode) (M := 1048576) (G := fun k left i => laws_szNodeS.l0 k l left i) (H := fun k left i => laws_szNode.f k (rd_T26 l (i : Int)).f0 (rd_T26 l (i : Int)).f1 (rd_T26 l (i : Int)).f2 (rd_T26 l (i : Int)).f3 (rd_T26 l (i : Int)).f4 (rd_T26 l (i : Int)).f5 (rd_T26 l (i : Int)).f6 (rd_T26 l (i : Int)).f7 left) wNode_n
   (fun k left i h0 hi => by simp only [laws_szNodeS.l0]; rw [if_pos (by omega), if_pos (by omega), w64 (by omega) (by omega)]; rfl)
   (fun i hi left h0 h1 => by
    obtain ⟨r, a, b⟩ := hx l[i] (List.getElem_mem hi) left h0 h1
    exact ⟨r, Ev.congr (fun k => by rw [rd_LNode l i hi]) a, b⟩)
   (fun k left h0 => by simp only [laws_szNodeS.l0]; rw [if_neg (by omega)]) (left - (l.length : Int)) (by omega) (by omega)
  exact ⟨r, Ev.step (fun k => by simp only [laws_szNodeS.f]; rw [e, if_neg hn]) hr, fun h => by have := hrw h; omega⟩
theorem szNode_f (x : S26) : WF26 x → ∀ left, 0 ≤ left → left ≤ 1048576 → ∃ r, Ev (fun k => laws_szNode.f k x.f0 x.f1 x.f2 x.f3 x.f4 x.f5 x.f6 x.f7 left) r ∧ (0 ≤ r → r + wNode x = left) := by
 induction x using indL with
 | h x ih =>
  intro hw left h0 h1
  obtain ⟨_, s0, s1, s2, s3, s4, s5, g6, s6, s7⟩ := hw
  unfold maxLen at s1 s2 s3 s7
  have nd := sumOf_nonneg wDecl_n x.f4
  have na := sumOf_nonneg wAttr_n x.f5
  have nk := sumOf_nonneg wNode_n x.f6
  rw [wNode_eq]
  have e1 : wrap64 (left - (x.f1.size : Int)) = left - (x.f1.size : Int) := w64 (by omega) (by omega)
  by_cases n1 : left - (x.f1.size : Int) < 0
  ·exact ⟨-1, Ev.congr (fun k => by simp only [laws_szNode.f, laws_szNode.F]; rw [e1, if_pos n1]) (Ev.now _), fun h => by omega⟩
  have e2 : wrap64 (left - (x.f1.size : Int) - (x.f2.size : Int)) = left - (x.f1.size : Int) - (x.f2.size : Int) := w64 (by omega) (by omega)
  by_cases n2 : left - (x.f1.size : Int) - (x.f2.size : Int) < 0
  ·exact ⟨-1, Ev.congr (fun k => by simp only [laws_szNode.f, laws_szNode.F]; rw [e1, if_neg n1, e2, if_pos n2]) (Ev.now _), fun h => by omega⟩
  have e3 : wrap64 (left - (x.f1.size : Int) - (x.f2.size : Int) - (x.f3.size : Int)) = left - (x.f1.size : Int) - (x.f2.size : Int) - (x.f3.size : Int) := w64 (by omega) (by omega)
  by_cases n3 : left - (x.f1.size : Int) - (x.f2.size : Int) - (x.f3.size : Int) < 0
  ·exact ⟨-1, Ev.congr (fun k => by simp only [laws_szNode.f, laws_szNode.F]; rw [e1, if_neg n1, e2, if_neg n2, e3, if_pos n3]) (Ev.now _), fun h => by omega⟩
  have hd : ∀ (r : Int) (g : Nat → Option Int), Ev (fun k => (laws_szDeclS.f k x.f4 (left - (x.f1.size : Int) - (x.f2.size : Int) - (x.f3.size : Int))).bind fun t108 => (if t108 < 0 then (some (-1)) else ((laws_szAttrS.f k x.f5 t108).bind fun t109 => (if t109 < 0 then (some (-1)) else ((laws_szNodeS.f k x.f6 t109).bind fun t110 => (if t110 < 0 then (some (-1)) else (if (wrap64 (t110 - (x.f7.size : Int))) < 0 then (some (-1)) else (some (wrap64 (t110 - (x.f7.size : Int))))))))))) r → Ev (fun k => laws_szNode.f k x.f0 x.f1 x.f2 x.f3 x.f4 x.f5 x.f6 x.f7 left) r := fun r g h =>
   Ev.congr (fun k => by simp only [laws_szNode.f, laws_szNode.F]; rw [e1, if_neg n1, e2, if_neg n2, e3, if_neg n3]) h
  obtain ⟨r4, hr4, hw4⟩ := szDeclS_f x.f4 s4 (left - (x.f1.size : Int) - (x.f2.size : Int) - (x.f3.size : Int)) (by omega) (by omega)
  by_cases n4 : r4 < 0
  ·exact ⟨-1, hd _ (fun _ => none) (Ev.bind hr4 (Ev.congr (fun k => by rw [if_pos n4]) (Ev.now _))), fun h => by omega⟩
  have w4 := hw4 (by omega)
  obtain ⟨r5, hr5, hw5⟩ := szAttrS_f x.f5 s5 r4 (by omega) (by omega)
  by_cases n5 : r5 < 0
  ·exact ⟨-1, hd _ (fun _ => none) (Ev.bind hr4 (Ev.congr (fun k => by rw [if_neg n4]) (Ev.bind hr5 (Ev.congr (fun k => by rw [if_pos n5]) (Ev.now _))))), fun h => by omega⟩
  have w5 := hw5 (by omega)
  obtain ⟨r6, hr6, hw6⟩ := szNodeS_of x.f6 g6 (fun y hy => ih y hy (s6 y hy)) r5 (by omega) (by omega)
  by_cases n6 : r6 < 0
  ·exact ⟨-1, hd _ (fun _ => none) (Ev.bind hr4 (Ev.congr (fun k => by rw [if_neg n4]) (Ev.bind hr5 (Ev.congr (fun k => by rw [if_neg n5]) (Ev.bind hr6 (Ev.congr (fun k => by rw [if_pos n6]) (Ev.now _))))))), fun h => by omega⟩
  have w6 := hw6 (by omega)
  have e7 : wrap64 (r6 - (x.f7.size : Int)) = r6 - (x.f7.size : Int) := w64 (by omega) (by omega)
  by_cases n7 : r6 - (x.f7.size : Int) < 0
  ·exact ⟨-1, hd _ (fun _ => none) (Ev.bind hr4 (Ev.congr (fun k => by rw [if_neg n4]) (Ev.bind hr5 (Ev.congr (fun k => by rw [if_neg n5]) (Ev.bind hr6 (Ev.congr (fun k => by rw [if_neg n6, e7, if_pos n7]) (Ev.now _))))))), fun h => by omega⟩
  ·exact ⟨r6 - (x.f7.size : Int), hd _ (fun _ => none) (Ev.bind hr4 (Ev.congr (fun k => by rw [if_neg n4]) (Ev.bind hr5 (Ev.congr (fun k => by rw [if_neg n5]) (Ev.bind hr6 (Ev.congr (fun k => by rw [if_neg n6, e7, if_neg n7]) (Ev.now _))))))), fun h => by omega⟩
theorem toNodeS_of (l : List S26) (hl : l.length ≤ 1048576) (hx : ∀ x ∈ l, Ev (fun k => laws_toNode.f k x.f0 x.f1 x.f2 x.f3 x.f4 x.f5 x.f6 x.f7) (x.f0, x.f1, x.f2, x.f3, x.f4.map cDe, x.f5.map cAt, x.f6.map cNo, x.f7)) : Ev (fun k => laws_toNodeS.f k l) (l.map cNo) := by
 have h := copy_all (l := l) (f := cNo) (G := fun k x i => laws_toNodeS.l0 k l x i) (H := fun k i => (laws_toNode.f k (rd_T26 l (i : Int)).f0 (rd_T26 l (i : Int)).f1 (rd_T26 l (i : Int)).f2 (rd_T26 l (i : Int)).f3 (rd_T26 l (i : Int)).f4 (rd_T26 l (i : Int)).f5 (rd_T26 l (i : Int)).f6 (rd_T26 l (i : Int)).f7).bind fun q => some (⟨q.1, q.2.1, q.2.2.1, q.2.2.2.1, q.2.2.2.2.1, q.2.2.2.2.2.1, q.2.2.2.2.2.2.1, q.2.2.2.2.2.2.2⟩ : S34)) (List.replicate l.length z34) (by simp)
  (fun k x i hx hi => by
   simp only [laws_toNodeS.l0]
   rw [if_pos (by omega), if_pos (by omega), w64 (by omega) (by omega), Int.toNat_natCast, Option.bind_assoc]
   simp only [Option.bind_some]
   simp only [show (i : Int) < (x.length : Int) from by omega, if_true]
   rfl)
  (fun i hi => by
   rw [rd_LNode l i hi]
   refine Ev.bind (hx l[i] (List.getElem_mem hi)) ?_
   rw [convNode_eq]
   exact Ev.now _) (fun k x hx => by simp only [laws_toNodeS.l0]; rw [if_neg (by omega)])
 refine Ev.step (fun k => ?_) h
 simp only [laws_toNodeS.f, Int.toNat_natCast]
 rw [if_pos (by omega), if_pos (by omega)]
theorem toNode_f (x : S26) : wNode x ≤ 1048576 → Ev (fun k => laws_toNode.f k x.f0 x.f1 x.f2 x.f3 x.f4 x.f5 x.f6 x.f7) (x.f0, x.f1, x.f2, x.f3, x.f4.map cDe, x.f5.map cAt, x.f6.map cNo, x.f7) := by
 induction x using indL with
 | h x ih =>
  intro hw
  obtain ⟨b4, b5, b6, _, bk⟩ := wNode_bounds x
  refine Ev.congr (g := fun k => laws_toNode.f k x.f0 x.f1 x.f2 x.f3 x.f4 x.f5 x.f6 x.f7) (f := fun k => (laws_toDeclS.f k x.f4).bind fun d => (laws_toAttrS.f k x.f5).bind fun a => (laws_toNodeS.f k x.f6).bind fun n => some (x.f0, x.f1, x.f2, x.f3, d, a, n, x.f7)) (fun k => rfl) ?_
  refine Ev.bind (toDeclS_f x.f4 (by omega)) (Ev.bind (toAttrS_f x.f5 (by omega)) (Ev.bind (toNodeS_of x.f6 (by omega) (fun y hy => ih y hy (by have := bk y hy; omega))) (Ev.now _)))
theorem eqNodeS_of (l : List S34) (hl : l.length ≤ 1048576) (hx : ∀ x ∈ l, Ev (fun k => laws_eqNode.f k x.f0 x.f1 x.f2 x.f3 x.f4 x.f5 x.f6 x.f7 x.f0 x.f1 x.f2 x.f3 x.f4 x.f5 x.f6 x.f7) true) : Ev (fun k => laws_eqNodeS.f k l l) true := by
 have h := all_all (n := l.length) (G := fun k i => laws_eqNodeS.l0 k l l i) (H := fun k i => laws_eqNode.f k (rd_T34 l (i : Int)).f0 (rd_T34 l (i : Int)).f1 (rd_T34 l (i : Int)).f2 (rd_T34 l (i : Int)).f3 (rd_T34 l (i : Int)).f4 (rd_T34 l (i : Int)).f5 (rd_T34 l (i : Int)).f6 (rd_T34 l (i : Int)).f7 (rd_T34 l (i : Int)).f0 (rd_T34 l (i : Int)).f1 (rd_T34 l (i : Int)).f2 (rd_T34 l (i : Int)).f3 (rd_T34 l (i : Int)).f4 (rd_T34 l (i : Int)).f5 (rd_T34 l (i : Int)).f6 (rd_T34 l (i : Int)).f7)
  (fun k i hi => by simp only [laws_eqNodeS.l0]; rw [if_pos (by omega), if_pos (by omega), if_pos (by omega), w64 (by omega) (by omega)]; rfl)
  (fun i hi => by rw [rd_INode l i hi]; exact hx l[i] (List.getElem_mem hi)) (fun k => by simp only [laws_eqNodeS.l0]; rw [if_neg (by omega)])
 refine Ev.step (fun k => ?_) h
 simp only [laws_eqNodeS.f]
 rw [if_pos trivial]
theorem eqNode_f (x : S34) : vNode x ≤ 1048576 → Ev (fun k => laws_eqNode.f k x.f0 x.f1 x.f2 x.f3 x.f4 x.f5 x.f6 x.f7 x.f0 x.f1 x.f2 x.f3 x.f4 x.f5 x.f6 x.f7) true := by
 induction x using indI with
 | h x ih =>
  intro hw
  obtain ⟨b4, b5, b6, _, bk⟩ := vNode_bounds x
  refine Ev.congr (f := fun k => (laws_eqDeclS.f k x.f4 x.f4).bind fun t => (if t = true then ((laws_eqAttrS.f k x.f5 x.f5).bind fun t => (if t = true then ((laws_eqNodeS.f k x.f6 x.f6).bind fun t => (if t = true then some true else some false)) else (some false))) else (some false))) (fun k => by simp [laws_eqNode.f, laws_eqNode.F]) ?_
  refine Ev.bind (eqDeclS_f x.f4 (by omega)) (Ev.congr (fun k => by rw [if_pos rfl]) (Ev.bind (eqAttrS_f x.f5 (by omega)) (Ev.congr (fun k => by rw [if_pos rfl]) (Ev.bind (eqNodeS_of x.f6 (by omega) (fun y hy => ih y hy (by have := bk y hy; omega))) (Ev.congr (fun k => by rw [if_pos rfl]) (Ev.now _))))))
theorem strOfNums_size (xs : List Int) : (strOfNums xs).size = xs.length := by
 unfold strOfNums
 simp [ByteArray.size]
theorem markText_l0 (n : Nat) : ∀ (i : Int) (acc : ByteArray), 0 ≤ i → i.toNat ≤ n → i ≤ 1152921504606846976 → (acc.size : Int) + i ≤ 2305843009213693952 → ∃ t, Ev (fun k => laws_markText.l0 k i acc) t := by
 induction n using Nat.strongRecOn with
 | _ n ih =>
  intro i acc h0 hn hi ha
  by_cases hp : i > 0
  ·have e1 : Int.tdiv i 10 = i / 10 := Int.tdiv_eq_ediv_of_nonneg h0
   have hs : (strOfNums [wrap64 (48 + (Int.tmod i 10)) % 256]).size = 1 := by rw [strOfNums_size]; rfl
   have hap : ((strOfNums [wrap64 (48 + (Int.tmod i 10)) % 256]) ++ acc).size = 1 + acc.size := by rw [ByteArray.size_append, hs]
   obtain ⟨t, ht⟩ := ih (i / 10).toNat (by omega) (i / 10) ((strOfNums [wrap64 (48 + (Int.tmod i 10)) % 256]) ++ acc) (by omega) (by omega) (by omega) (by rw [hap]; omega)
   refine ⟨t, Ev.step (fun k => ?_) ht⟩
   simp only [laws_markText.l0, Option.bind_some]
   rw [if_pos hp, if_pos (by rw [hs]; omega), e1, w64 (by omega) (by omega)]
  ·refine ⟨(⟨#[109]⟩ : ByteArray) ++ acc, Ev.step (fun k => ?_) (Ev.now _)⟩
   simp only [laws_markText.l0]
   rw [if_neg hp, if_pos (by omega)]
theorem markText_ex (i : Int) (hi : i ≤ 1152921504606846976) : ∃ t, Ev (fun k => laws_markText.f k i) t := by
 by_cases h : i ≤ 0
 ·exact ⟨_, Ev.congr (fun k => by simp only [laws_markText.f]; rw [if_pos h]) (Ev.now _)⟩
 ·obtain ⟨t, ht⟩ := markText_l0 i.toNat i ⟨#[]⟩ (by omega) (by omega) hi (by show ((0 : Nat) : Int) + i ≤ _; omega)
  exact ⟨t, Ev.congr (fun k => by simp only [laws_markText.f]; rw [if_neg h]) ht⟩
open Classical in
/-- What markText writes of a number. -/
noncomputable def mT (i : Int) : ByteArray := if h : ∃ t, Ev (fun k => laws_markText.f k i) t then h.choose else ⟨#[]⟩
theorem mT_ev (i : Int) (hi : i ≤ 1152921504606846976) : Ev (fun k => laws_markText.f k i) (mT i) := by
 have h := markText_ex i hi
 unfold mT
 rw [dif_pos h]
 exact h.choose_spec
theorem rdset_Decl (x : List S88) (i : Nat) (h : i < x.length) (v : S88) : rd_T88 (x.set i v) (i : Int) = v := by simp [rd_T88, List.getD_eq_getElem?_getD, h]
theorem mkDecl_step (x : List S88) (a : Int) (i : Nat) (h : i < x.length) (hx : x.length ≤ 4194304) (h0 : 0 ≤ a) (h1 : a ≤ 1099511627776) (k : Nat) : laws_markDeclS.l0 (k + 1) x a (i : Int) = (laws_markText.f k (a)).bind fun t0 => (laws_markText.f k (a + 1)).bind fun t1 => laws_markDeclS.l0 k (x.set i ⟨t0, t1⟩) (a + 1 + 1) ((i : Int) + 1) := by
 have w1 : wrap64 (a + 1) = a + 1 := w64 (by omega) (by omega)
 have w2 : wrap64 (a + 1 + 1) = a + 1 + 1 := w64 (by omega) (by omega)
 have wi : wrap64 ((i : Int) + 1) = (i : Int) + 1 := w64 (by omega) (by omega)
 have hi0 : (0 : Int) ≤ (i : Int) := by omega
 simp only [laws_markDeclS.l0]
 rw [if_pos (by omega)]
 simp only [Option.bind_some, w1, w2, wi, if_pos hi0, Int.toNat_natCast, List.set_set, rdset_Decl x i h]
/-- The list behind marks from a on. -/
noncomputable def mDecl (a : Int) (n : Nat) : List S88 := (List.range n).map fun (i : Nat) => ⟨mT (a + 2 * (i : Int)), mT (a + 2 * (i : Int) + 1)⟩
theorem mDecl_get (a : Int) (n i : Nat) (h : i < n) : (mDecl a n)[i]? = some ⟨mT (a + 2 * (i : Int)), mT (a + 2 * (i : Int) + 1)⟩ := by simp [mDecl, h]
theorem mDecl_length (a : Int) (n : Nat) : (mDecl a n).length = n := by simp [mDecl]
theorem markDecl_l0 (a : Int) (n : Nat) (hn : n ≤ 4194304) (ha : 0 ≤ a ∧ a ≤ 549755813888) (d : Nat) : ∀ (i : Nat) (x : List S88), x.length = n → i ≤ n → n - i = d → (∀ j, j < i → x[j]? = (mDecl a n)[j]?) →
  Ev (fun k => laws_markDeclS.l0 k x (a + 2 * (i : Int)) (i : Int)) (a + 2 * (n : Int), mDecl a n) := by
 induction d with
 | zero =>
  intro i x hx hi hd hj
  have e : i = n := by omega
  subst e
  have ex : x = mDecl a i := List.ext_getElem? (fun j => by
   by_cases hlt : j < i
   ·exact hj j hlt
   ·rw [List.getElem?_eq_none (by omega), List.getElem?_eq_none (by rw [mDecl_length]; omega)])
  refine Ev.step (f := fun _ => some (a + 2 * (i : Int), x)) (fun k => ?_) (by rw [ex]; exact Ev.now _)
  simp only [laws_markDeclS.l0]
  rw [if_neg (by omega)]
 | succ d ih =>
  intro i x hx hi hd hj
  have hlt : i < n := by omega
  refine Ev.step (mkDecl_step x (a + 2 * (i : Int)) i (by omega) (by omega) (by omega) (by omega)) (Ev.bind (mT_ev _ (by omega)) (Ev.bind (mT_ev _ (by omega)) ?_))
  have e1 : a + 2 * (i : Int) + 1 + 1 = a + 2 * ((i + 1 : Nat) : Int) := by omega
  have e2 : (i : Int) + 1 = ((i + 1 : Nat) : Int) := by omega
  rw [e1, e2]
  refine ih (i + 1) _ (by rw [List.length_set]; exact hx) (by omega) (by omega) (fun j hj2 => ?_)
  by_cases e : j = i
  ·subst e
   rw [List.getElem?_set_self (by omega), mDecl_get a n j hlt]
  ·rw [List.getElem?_set_ne (by omega)]
   exact hj j (by omega)
theorem markDecl_f (a : Int) (x : List S88) (hn : x.length ≤ 4194304) (ha : 0 ≤ a ∧ a ≤ 549755813888) : Ev (fun k => laws_markDeclS.f k x a) (a + 2 * (x.length : Int), mDecl a x.length) := by
 have h := markDecl_l0 a x.length hn ha x.length 0 x rfl (by omega) (by omega) (fun j hj => by omega)
 refine Ev.congr (fun k => ?_) h
 simp [laws_markDeclS.f]
theorem rdset_Attr (x : List S90) (i : Nat) (h : i < x.length) (v : S90) : rd_T90 (x.set i v) (i : Int) = v := by simp [rd_T90, List.getD_eq_getElem?_getD, h]
theorem mkAttr_step (x : List S90) (a : Int) (i : Nat) (h : i < x.length) (hx : x.length ≤ 4194304) (h0 : 0 ≤ a) (h1 : a ≤ 1099511627776) (k : Nat) : laws_markAttrS.l0 (k + 1) x a (i : Int) = (laws_markText.f k (a)).bind fun t0 => (laws_markText.f k (a + 1)).bind fun t1 => (laws_markText.f k (a + 1 + 1)).bind fun t2 => (laws_markText.f k (a + 1 + 1 + 1)).bind fun t3 => laws_markAttrS.l0 k (x.set i ⟨t0, t1, t2, t3⟩) (a + 1 + 1 + 1 + 1) ((i : Int) + 1) := by
 have w1 : wrap64 (a + 1) = a + 1 := w64 (by omega) (by omega)
 have w2 : wrap64 (a + 1 + 1) = a + 1 + 1 := w64 (by omega) (by omega)
 have w3 : wrap64 (a + 1 + 1 + 1) = a + 1 + 1 + 1 := w64 (by omega) (by omega)
 have w4 : wrap64 (a + 1 + 1 + 1 + 1) = a + 1 + 1 + 1 + 1 := w64 (by omega) (by omega)
 have wi : wrap64 ((i : Int) + 1) = (i : Int) + 1 := w64 (by omega) (by omega)
 have hi0 : (0 : Int) ≤ (i : Int) := by omega
 simp only [laws_markAttrS.l0]
 rw [if_pos (by omega)]
 simp only [Option.bind_some, w1, w2, w3, w4, wi, if_pos hi0, Int.toNat_natCast, List.set_set, rdset_Attr x i h]
/-- The list behind marks from a on. -/
noncomputable def mAttr (a : Int) (n : Nat) : List S90 := (List.range n).map fun (i : Nat) => ⟨mT (a + 4 * (i : Int)), mT (a + 4 * (i : Int) + 1), mT (a + 4 * (i : Int) + 1 + 1), mT (a + 4 * (i : Int) + 1 + 1 + 1)⟩
theorem mAttr_get (a : Int) (n i : Nat) (h : i < n) : (mAttr a n)[i]? = some ⟨mT (a + 4 * (i : Int)), mT (a + 4 * (i : Int) + 1), mT (a + 4 * (i : Int) + 1 + 1), mT (a + 4 * (i : Int) + 1 + 1 + 1)⟩ := by simp [mAttr, h]
theorem mAttr_length (a : Int) (n : Nat) : (mAttr a n).length = n := by simp [mAttr]
theorem markAttr_l0 (a : Int) (n : Nat) (hn : n ≤ 4194304) (ha : 0 ≤ a ∧ a ≤ 549755813888) (d : Nat) : ∀ (i : Nat) (x : List S90), x.length = n → i ≤ n → n - i = d → (∀ j, j < i → x[j]? = (mAttr a n)[j]?) →
  Ev (fun k => laws_markAttrS.l0 k x (a + 4 * (i : Int)) (i : Int)) (a + 4 * (n : Int), mAttr a n) := by
 induction d with
 | zero =>
  intro i x hx hi hd hj
  have e : i = n := by omega
  subst e
  have ex : x = mAttr a i := List.ext_getElem? (fun j => by
   by_cases hlt : j < i
   ·exact hj j hlt
   ·rw [List.getElem?_eq_none (by omega), List.getElem?_eq_none (by rw [mAttr_length]; omega)])
  refine Ev.step (f := fun _ => some (a + 4 * (i : Int), x)) (fun k => ?_) (by rw [ex]; exact Ev.now _)
  simp only [laws_markAttrS.l0]
  rw [if_neg (by omega)]
 | succ d ih =>
  intro i x hx hi hd hj
  have hlt : i < n := by omega
  refine Ev.step (mkAttr_step x (a + 4 * (i : Int)) i (by omega) (by omega) (by omega) (by omega)) (Ev.bind (mT_ev _ (by omega)) (Ev.bind (mT_ev _ (by omega)) (Ev.bind (mT_ev _ (by omega)) (Ev.bind (mT_ev _ (by omega)) ?_))))
  have e1 : a + 4 * (i : Int) + 1 + 1 + 1 + 1 = a + 4 * ((i + 1 : Nat) : Int) := by omega
  have e2 : (i : Int) + 1 = ((i + 1 : Nat) : Int) := by omega
  rw [e1, e2]
  refine ih (i + 1) _ (by rw [List.length_set]; exact hx) (by omega) (by omega) (fun j hj2 => ?_)
  by_cases e : j = i
  ·subst e
   rw [List.getElem?_set_self (by omega), mAttr_get a n j hlt]
  ·rw [List.getElem?_set_ne (by omega)]
   exact hj j (by omega)
theorem markAttr_f (a : Int) (x : List S90) (hn : x.length ≤ 4194304) (ha : 0 ≤ a ∧ a ≤ 549755813888) : Ev (fun k => laws_markAttrS.f k x a) (a + 4 * (x.length : Int), mAttr a x.length) := by
 have h := markAttr_l0 a x.length hn ha x.length 0 x rfl (by omega) (by omega) (fun j hj => by omega)
 refine Ev.congr (fun k => ?_) h
 simp [laws_markAttrS.f]
theorem markNode_go (l : List S34) (hl : ∀ y ∈ l, ∀ a, 0 ≤ a → a + 8 * (1 + vNode y) ≤ 549755813888 → ∃ r z, Ev (fun k => laws_markNodeS.node (laws_markNodeS.f k) k y a) (r, z) ∧ a ≤ r ∧ r ≤ a + 8 * (1 + vNode y)) : ∀ a, 0 ≤ a → a + 8 * ((l.length : Int) + sumOf vNode l) ≤ 549755813888 →
  ∃ r z, Ev (fun k => laws_markNodeS.go (laws_markNodeS.f k) k l a) (r, z) ∧ a ≤ r ∧ r ≤ a + 8 * ((l.length : Int) + sumOf vNode l) := by
 induction l with
 | nil =>
  intro a h0 h1
  exact ⟨a, [], Ev.congr (fun k => by simp only [laws_markNodeS.go]) (Ev.now _), Int.le_refl _, by simp [sumOf_nil]⟩
 | cons x l ih =>
  intro a h0 h1
  rw [sumOf_cons, List.length_cons] at h1 ⊢
  have hv := vNode_n x
  have hs := sumOf_nonneg vNode_n l
  obtain ⟨r, z, hr, b1, b2⟩ := hl x (List.mem_cons_self ..) a h0 (by omega)
  obtain ⟨q, y, hq, b3, b4⟩ := ih (fun y hy => hl y (List.mem_cons_of_mem _ hy)) r (by omega) (by omega)
  refine ⟨q, z :: y, Ev.congr (fun k => by simp only [laws_markNodeS.go]; rfl) (Ev.bind hr ?_), by omega, by omega⟩
  refine Ev.bind hq ?_
  exact Ev.now _
theorem markNodeS_of (l : List S34) (h62 : l.length ≤ 1048576) (hl : ∀ y ∈ l, ∀ a, 0 ≤ a → a + 8 * (1 + vNode y) ≤ 549755813888 → ∃ r z, Ev (fun k => laws_markNodeS.node (laws_markNodeS.f k) k y a) (r, z) ∧ a ≤ r ∧ r ≤ a + 8 * (1 + vNode y)) (a : Int) (h0 : 0 ≤ a) (h1 : a + 8 * ((l.length : Int) + sumOf vNode l) ≤ 549755813888) :
  ∃ r z, Ev (fun k => laws_markNodeS.f k l a) (r, z) ∧ a ≤ r ∧ r ≤ a + 8 * ((l.length : Int) + sumOf vNode l) := by
 obtain ⟨r, z, hr, b⟩ := markNode_go l hl a h0 h1
 exact ⟨r, z, Ev.step (fun k => by simp only [laws_markNodeS.f]; rw [if_pos (by omega)]) hr, b⟩
theorem markNode_node (x : S34) : vNode x ≤ 1048576 → ∀ a, 0 ≤ a → a + 8 * (1 + vNode x) ≤ 549755813888 → ∃ r z, Ev (fun k => laws_markNodeS.node (laws_markNodeS.f k) k x a) (r, z) ∧ a ≤ r ∧ r ≤ a + 8 * (1 + vNode x) := by
 induction x using indI with
 | h x ih =>
  intro hv a h0 h1
  obtain ⟨b4, b5, b6, bs, bk⟩ := vNode_bounds x
  have e := vNode_eq x
  have hs := sumOf_nonneg vNode_n x.f6
  have w1 : wrap64 (a + 1) = a + 1 := w64 (by omega) (by omega)
  have w2 : wrap64 (a + 1 + 1) = a + 1 + 1 := w64 (by omega) (by omega)
  have w3 : wrap64 (a + 1 + 1 + 1) = a + 1 + 1 + 1 := w64 (by omega) (by omega)
  have w4 : wrap64 (a + 1 + 1 + 1 + 1) = a + 1 + 1 + 1 + 1 := w64 (by omega) (by omega)
  have hd := markDecl_f (a + 1 + 1 + 1 + 1) x.f4 (by omega) (by omega)
  have ht := markAttr_f (a + 1 + 1 + 1 + 1 + 2 * (x.f4.length : Int)) x.f5 (by omega) (by omega)
  obtain ⟨r, z, hr, c1, c2⟩ := markNodeS_of x.f6 (by omega) (fun y hy => ih y hy (by have := bk y hy; omega)) (a + 1 + 1 + 1 + 1 + 2 * (x.f4.length : Int) + 4 * (x.f5.length : Int)) (by omega) (by omega)
  have w5 : wrap64 (r + 1) = r + 1 := w64 (by omega) (by omega)
  refine ⟨r + 1, ⟨a, mT (a + 1), mT (a + 1 + 1), mT (a + 1 + 1 + 1), mDecl (a + 1 + 1 + 1 + 1) x.f4.length, mAttr (a + 1 + 1 + 1 + 1 + 2 * (x.f4.length : Int)) x.f5.length, z, mT r⟩, ?_, by omega, by omega⟩
  refine Ev.congr (fun k => by simp only [laws_markNodeS.node, w1, w2, w3, w4]; rfl) (Ev.bind (mT_ev (a + 1) (by omega)) ?_)
  refine Ev.bind (mT_ev (a + 1 + 1) (by omega)) ?_
  refine Ev.bind (mT_ev (a + 1 + 1 + 1) (by omega)) ?_
  refine Ev.bind hd ?_
  refine Ev.bind ht ?_
  refine Ev.bind hr ?_
  refine Ev.bind (mT_ev r (by omega)) ?_
  exact Ev.congr (fun k => by rw [w5]) (Ev.now _)
theorem markNode_ev (x : S34) (hv : vNode x ≤ 1048576) (a : Int) (h0 : 0 ≤ a) (h1 : a ≤ 274877906944) : ∃ r z, Ev (fun k => laws_markNode.g k x a) (r, z) ∧ a ≤ r ∧ r ≤ a + 8 * (1 + vNode x) := by
 obtain ⟨b4, b5, b6, bs, bk⟩ := vNode_bounds x
 have e := vNode_eq x
 have hs := sumOf_nonneg vNode_n x.f6
 obtain ⟨r, z, hr, c1, c2⟩ := markNodeS_of x.f6 (by omega) (fun y hy => markNode_node y (by have := bk y hy; omega)) (a + 2 * (x.f4.length : Int) + 4 * (x.f5.length : Int)) (by omega) (by omega)
 refine ⟨r, ⟨x.f0, x.f1, x.f2, x.f3, mDecl a x.f4.length, mAttr (a + 2 * (x.f4.length : Int)) x.f5.length, z, x.f7⟩, ?_, by omega, by omega⟩
 refine Ev.congr (fun k => by simp only [laws_markNode.g]; rfl) (Ev.bind (markDecl_f a x.f4 (by omega) (by omega)) ?_)
 refine Ev.bind (markAttr_f _ x.f5 (by omega) (by omega)) ?_
 refine Ev.bind hr ?_
 exact Ev.now _
def lenI (l : List Int) : Int := (l.length : Int)
theorem lenI_n (l : List Int) : 0 ≤ lenI l := by unfold lenI; omega
theorem rd_row (l : List (List Int)) (i : Nat) (h : i < l.length) : rd_L12 l (i : Int) = l[i] := by simp [rd_L12, List.getD_eq_getElem?_getD, List.getElem?_eq_getElem h]
-- two rows of whole numbers, put together
theorem concat_f (p q : List Int) (hp : p.length ≤ 4194304) (hq : q.length ≤ 4194304) : Ev (fun k => slices_Concat_int_int.f k [p, q]) (p ++ q) := by
 have r0 : rd_L12 [p, q] 0 = p := rfl
 have r1 : rd_L12 [p, q] 1 = q := rfl
 have w0 : wrap64 (0 + (p.length : Int)) = (p.length : Int) := by rw [w64 (by omega) (by omega)]; omega
 have w1 : wrap64 ((p.length : Int) + (q.length : Int)) = (p.length : Int) + (q.length : Int) := w64 (by omega) (by omega)
 have w2 : wrap64 (0 + 1) = 1 := (w64 (by omega) (by omega)).trans rfl
 have w3 : wrap64 (1 + 1) = 2 := (w64 (by omega) (by omega)).trans rfl
 have hl : (([p, q] : List (List Int)).length : Int) = 2 := rfl
 have gr : slices_Grow_int_int.f ([] : List Int) ((p.length : Int) + (q.length : Int)) = some [] := by
  simp only [slices_Grow_int_int.f]
  rw [if_pos (by omega), if_pos (by omega)]
 have e3 : Ev (fun k => slices_Concat_int_int.l1 k (p ++ q) [p, q] 2 2) (p ++ q) := Ev.step (fun k => by
  simp only [slices_Concat_int_int.l1]
  rw [if_neg (by omega)]) (Ev.now _)
 have e2 : Ev (fun k => slices_Concat_int_int.l1 k p [p, q] 2 1) (p ++ q) := Ev.step (fun k => by
  simp only [slices_Concat_int_int.l1]
  rw [if_pos (by omega), if_pos (by omega), if_pos (by rw [hl]; omega), r1, if_pos (by omega), w3]) e3
 have e1 : Ev (fun k => slices_Concat_int_int.l1 k [] [p, q] 2 0) (p ++ q) := Ev.step (fun k => by
  simp only [slices_Concat_int_int.l1]
  rw [if_pos (by omega), if_pos (by omega), if_pos (by rw [hl]; omega), r0, if_pos (by simp only [List.length_nil]; omega), w2, List.nil_append]) e2
 have d2 : Ev (fun k => slices_Concat_int_int.l0 k [p, q] ((p.length : Int) + (q.length : Int)) [p, q] 2 2) (p ++ q) := Ev.step (fun k => by
  simp only [slices_Concat_int_int.l0]
  rw [if_neg (by omega), gr, Option.bind_some, hl]) e1
 have d1 : Ev (fun k => slices_Concat_int_int.l0 k [p, q] (p.length : Int) [p, q] 2 1) (p ++ q) := Ev.step (fun k => by
  simp only [slices_Concat_int_int.l0]
  rw [if_pos (by omega), if_pos (by omega), if_pos (by rw [hl]; omega), r1, w1, if_neg (by omega), w3]) d2
 have d0 : Ev (fun k => slices_Concat_int_int.l0 k [p, q] 0 [p, q] 2 0) (p ++ q) := Ev.step (fun k => by
  simp only [slices_Concat_int_int.l0]
  rw [if_pos (by omega), if_pos (by omega), if_pos (by rw [hl]; omega), r0, w0, if_neg (by omega), w2]) d1
 exact Ev.congr (fun k => by simp only [slices_Concat_int_int.f]; rw [hl]) d0
theorem spec_step (k : Nat) (path : List Int) (acc : List (List Int)) (i : Nat) (x : S34) (hlt : i < x.f6.length) (hp : path.length ≤ 1048576) (hx : x.f6.length ≤ 1048576) : spec_l10Places.l0 (k + 1) path acc (i : Int) x.f0 x.f1 x.f2 x.f3 x.f4 x.f5 x.f6 x.f7 = (spec_l10Places.f k x.f6[i].f0 x.f6[i].f1 x.f6[i].f2 x.f6[i].f3 x.f6[i].f4 x.f6[i].f5 x.f6[i].f6 x.f6[i].f7 (path ++ [(i : Int)])).bind fun t => if acc.length + t.length < 5864062014805 then spec_l10Places.l0 k path (acc ++ t) ((i + 1 : Nat) : Int) x.f0 x.f1 x.f2 x.f3 x.f4 x.f5 x.f6 x.f7 else none := by
 have hrd := rd_INode x.f6 i hlt
 have wi : wrap64 ((i : Int) + 1) = ((i + 1 : Nat) : Int) := by rw [w64 (by omega) (by omega)]; omega
 have c0 : (i : Int) < (x.f6.length : Int) := by omega
 have c1 : ([] : List Int).length + path.length < 17592186044416 := by rw [List.length_nil]; omega
 have c2 : path.length < 17592186044416 := by omega
 have c3 : (0 : Int) ≤ (i : Int) := by omega
 simp only [spec_l10Places.l0, Option.bind_some]
 rw [if_pos c0, if_pos c1]
 simp only [List.nil_append]
 rw [if_pos c2, if_pos c3, hrd, wi]
theorem spec_end (k : Nat) (path : List Int) (acc : List (List Int)) (x : S34) : spec_l10Places.l0 (k + 1) path acc (x.f6.length : Int) x.f0 x.f1 x.f2 x.f3 x.f4 x.f5 x.f6 x.f7 = some acc := by
 simp only [spec_l10Places.l0]
 rw [if_neg (by omega)]
theorem spec_first (k : Nat) (path : List Int) (x : S34) (hp : path.length ≤ 1048576) : spec_l10Places.f (k + 1) x.f0 x.f1 x.f2 x.f3 x.f4 x.f5 x.f6 x.f7 path = spec_l10Places.l0 k path [path] ((0 : Nat) : Int) x.f0 x.f1 x.f2 x.f3 x.f4 x.f5 x.f6 x.f7 := by
 have c1 : ([] : List Int).length + path.length < 17592186044416 := by rw [List.length_nil]; omega
 simp only [spec_l10Places.f, Option.bind_some]
 rw [if_pos c1]
 rfl
theorem impl_step (G : S34 → List Int → List (List Int) → Option (List (List Int))) (C : List (List Int) → Option (List Int)) (l : List S34) (path : List Int) (d i : Nat) (hlt : i < l.length) (out : List (List Int)) : impl_placesIn.go G C l path (d + 1) i out = (C [path, [(i : Int)]]).bind fun p => (G l[i] p out).bind fun q => impl_placesIn.go G C l path d (i + 1) q := by
 simp only [impl_placesIn.go]
 rw [rd_INode l i hlt]
theorem impl_first (k : Nat) (x : S34) (path : List Int) (out : List (List Int)) (hp : path.length ≤ 1048576) (ho : out.length ≤ 4194304) (hx : x.f6.length ≤ 1048576) : impl_placesIn.f (k + 1) x path out = impl_placesIn.go (impl_placesIn.f k) (slices_Concat_int_int.f k) x.f6 path x.f6.length 0 (out ++ [path]) := by
 have c : path.length < 4398046511104 ∧ out.length < 2932031007402 ∧ x.f6.length < 4398046511104 := ⟨by omega, by omega, by omega⟩
 simp only [impl_placesIn.f]
 rw [if_pos c]
-- the places of a tree, told by both
set_option maxHeartbeats 4000000 in
theorem places_same (x : S34) : vNode x ≤ 1048576 → ∀ path : List Int, (path.length : Int) + vNode x ≤ 1048576 →
  ∃ L : List (List Int), Ev (fun k => spec_l10Places.f k x.f0 x.f1 x.f2 x.f3 x.f4 x.f5 x.f6 x.f7 path) L ∧ (∀ out : List (List Int), (out.length : Int) + (1 + vNode x) ≤ 4194304 → Ev (fun k => impl_placesIn.f k x path out) (out ++ L)) ∧ (L.length : Int) ≤ 1 + vNode x ∧ ∀ p ∈ L, p.length ≤ 1048576 := by
 induction x using indI with
 | h x ih =>
  intro hv path hpath
  obtain ⟨b4, b5, b6, bs, bk⟩ := vNode_bounds x
  have e := vNode_eq x
  have hv0 := vNode_n x
  have hpl : path.length ≤ 1048576 := by omega
  have hxl : x.f6.length ≤ 1048576 := by omega
  have loop : ∀ (d i : Nat), i + d = x.f6.length → ∃ L : List (List Int), (∀ acc : List (List Int), (acc.length : Int) + (((x.f6.drop i).length : Int) + sumOf vNode (x.f6.drop i)) ≤ 4194304 → Ev (fun k => spec_l10Places.l0 k path acc (i : Int) x.f0 x.f1 x.f2 x.f3 x.f4 x.f5 x.f6 x.f7) (acc ++ L)) ∧ (∀ out : List (List Int), (out.length : Int) + (((x.f6.drop i).length : Int) + sumOf vNode (x.f6.drop i)) ≤ 4194304 → Ev (fun k => impl_placesIn.go (impl_placesIn.f k) (slices_Concat_int_int.f k) x.f6 path d i out) (out ++ L)) ∧ (L.length : Int) ≤ ((x.f6.drop i).length : Int) + sumOf vNode (x.f6.drop i) ∧ ∀ p ∈ L, p.length ≤ 1048576 := by
   intro d
   induction d with
   | zero =>
    intro i hi
    have e0 : i = x.f6.length := by omega
    subst e0
    refine ⟨[], fun acc _ => ?_, fun out _ => ?_, by rw [List.drop_length]; simp [sumOf_nil], fun p hp => by cases hp⟩
    ·rw [List.append_nil]
     exact Ev.step (fun k => spec_end k path acc x) (Ev.now acc)
    ·rw [List.append_nil]
     exact Ev.congr (fun k => by simp only [impl_placesIn.go]) (Ev.now out)
   | succ d ihd =>
    intro i hi
    have hlt : i < x.f6.length := by omega
    have hm := List.getElem_mem hlt
    have hdr := List.drop_eq_getElem_cons hlt
    have hvx := bk _ hm
    have hk : 1 + vNode x.f6[i] ≤ vNode x := by
     have := sumOf_mem vNode_n hm
     omega
    have hn1 := vNode_n x.f6[i]
    have hn2 := sumOf_nonneg vNode_n (x.f6.drop (i + 1))
    obtain ⟨L1, s1, g1, l1, q1⟩ := ih _ hm (by omega) (path ++ [(i : Int)]) (by rw [List.length_append, List.length_singleton]; omega)
    obtain ⟨L2, s2, g2, l2, q2⟩ := ihd (i + 1) (by omega)
    rw [hdr, sumOf_cons, List.length_cons]
    refine ⟨L1 ++ L2, fun acc ha => ?_, fun out ho => ?_, by rw [List.length_append]; omega, fun p hp => (List.mem_append.1 hp).elim (q1 p) (q2 p)⟩
    ·have nx := s2 (acc ++ L1) (by rw [List.length_append]; omega)
     rw [List.append_assoc] at nx
     have sA : Ev (fun k => (spec_l10Places.f k x.f6[i].f0 x.f6[i].f1 x.f6[i].f2 x.f6[i].f3 x.f6[i].f4 x.f6[i].f5 x.f6[i].f6 x.f6[i].f7 (path ++ [(i : Int)])).bind fun t => if acc.length + t.length < 5864062014805 then spec_l10Places.l0 k path (acc ++ t) ((i + 1 : Nat) : Int) x.f0 x.f1 x.f2 x.f3 x.f4 x.f5 x.f6 x.f7 else none) (acc ++ (L1 ++ L2)) := Ev.bind s1 (Ev.congr (fun k => if_pos (by omega)) nx)
     exact Ev.step (fun k => spec_step k path acc i x hlt hpl hxl) sA
    ·have nx := g2 (out ++ L1) (by rw [List.length_append]; omega)
     rw [List.append_assoc] at nx
     have sB : Ev (fun k => (impl_placesIn.f k x.f6[i] (path ++ [(i : Int)]) out).bind fun q => impl_placesIn.go (impl_placesIn.f k) (slices_Concat_int_int.f k) x.f6 path d (i + 1) q) (out ++ (L1 ++ L2)) := Ev.bind (g1 out (by omega)) nx
     have sC : Ev (fun k => (slices_Concat_int_int.f k [path, [(i : Int)]]).bind fun p => (impl_placesIn.f k x.f6[i] p out).bind fun q => impl_placesIn.go (impl_placesIn.f k) (slices_Concat_int_int.f k) x.f6 path d (i + 1) q) (out ++ (L1 ++ L2)) := Ev.bind (concat_f path [(i : Int)] (by omega) (by rw [List.length_singleton]; omega)) sB
     exact Ev.congr (fun k => impl_step _ _ x.f6 path d i hlt out) sC
  obtain ⟨L, s, g, l, q⟩ := loop x.f6.length 0 (by omega)
  rw [List.drop_zero] at s g l
  refine ⟨path :: L, ?_, fun out ho => ?_, by rw [List.length_cons]; omega, fun p hp => ?_⟩
  ·exact Ev.step (fun k => spec_first k path x hpl) (s [path] (by simp only [List.length_singleton]; omega))
  ·have h := g (out ++ [path]) (by rw [List.length_append, List.length_singleton]; omega)
   rw [List.append_assoc, List.singleton_append] at h
   exact Ev.step (fun k => impl_first k x path out hpl (by omega) hxl) h
  ·rcases List.mem_cons.1 hp with h | h
   ·rw [h]; have := vNode_n x; omega
   ·exact q p h
-- marks in rows of whole numbers
theorem markI_l (n : Nat) (hn : n ≤ 4194304) (a : Int) (h0 : 0 ≤ a) (h1 : a ≤ 1152921504606846976) (d : Nat) : ∀ (i : Nat) (x : List Int), x.length = n → i + d = n → (∀ j, j < i → x[j]? = some (a + (j : Int))) →
  ∃ m : List Int, m.length = n ∧ Ev (fun k => laws_markIntS.l0 k x (a + (i : Int)) (i : Int)) (a + (n : Int), m) ∧ ∀ j, j < n → m[j]? = some (a + (j : Int)) := by
 induction d with
 | zero =>
  intro i x hx hi hj
  have e : i = n := by omega
  subst e
  refine ⟨x, hx, Ev.step (fun k => ?_) (Ev.now _), hj⟩
  simp only [laws_markIntS.l0]
  rw [if_neg (by omega)]
 | succ d ih =>
  intro i x hx hi hj
  obtain ⟨m, m1, m2, m3⟩ := ih (i + 1) (x.set i (a + (i : Int))) (by simp [hx]) (by omega) (fun j hlt => by
   by_cases e : j = i
   ·subst e
    rw [List.getElem?_set_self (by omega)]
   ·rw [List.getElem?_set_ne (by omega)]
    exact hj j (by omega))
  refine ⟨m, m1, Ev.step (fun k => ?_) m2, m3⟩
  have e1 : wrap64 (a + (i : Int) + 1) = a + ((i + 1 : Nat) : Int) := by rw [w64 (by omega) (by omega)]; omega
  have e2 : wrap64 ((i : Int) + 1) = ((i + 1 : Nat) : Int) := by rw [w64 (by omega) (by omega)]; omega
  simp only [laws_markIntS.l0]
  rw [if_pos (by omega), if_pos (by omega), Int.toNat_natCast, e1, e2]
theorem heldI_l (m : List Int) (n : Nat) (hm : m.length = n) (hn : n ≤ 4194304) (a : Int) (h0 : 0 ≤ a) (h1 : a ≤ 1152921504606846976) (hj : ∀ j, j < n → m[j]? = some (a + (j : Int))) (d : Nat) : ∀ (i : Nat), i + d = n →
  Ev (fun k => laws_heldIntS.l0 k m (a + (i : Int)) (i : Int)) (a + (n : Int)) := by
 induction d with
 | zero =>
  intro i hi
  have e : i = n := by omega
  subst e
  refine Ev.step (fun k => ?_) (Ev.now _)
  simp only [laws_heldIntS.l0]
  rw [if_neg (by omega)]
 | succ d ih =>
  intro i hi
  have hr : rd m (i : Int) = a + (i : Int) := by rw [rd_nat, List.getD_eq_getElem?_getD, hj i (by omega)]; rfl
  refine Ev.step (fun k => ?_) (ih (i + 1) (by omega))
  have e1 : wrap64 (a + (i : Int) + 1) = a + ((i + 1 : Nat) : Int) := by rw [w64 (by omega) (by omega)]; omega
  have e2 : wrap64 ((i : Int) + 1) = ((i + 1 : Nat) : Int) := by rw [w64 (by omega) (by omega)]; omega
  simp only [laws_heldIntS.l0]
  rw [if_pos (by omega), if_pos (by omega), hr, if_pos rfl, e1, e2]
theorem markI (l : List Int) (hl : l.length ≤ 4194304) (a : Int) (h0 : 0 ≤ a) (h1 : a ≤ 1152921504606846976) : ∃ m, Ev (fun k => laws_markIntS.f k l a) (a + lenI l, m) ∧ Ev (fun k => laws_heldIntS.f k m a) (a + lenI l) := by
 obtain ⟨m, m1, m2, m3⟩ := markI_l l.length hl a h0 h1 l.length 0 l rfl (by omega) (fun j h => by omega)
 have h := heldI_l m l.length m1 hl a h0 h1 m3 l.length 0 (by omega)
 simp only [Int.natCast_zero, Int.add_zero] at m2 h
 exact ⟨m, Ev.congr (fun k => by simp only [laws_markIntS.f]) m2, Ev.congr (fun k => by simp only [laws_heldIntS.f]) h⟩
theorem markII_go (xs : List (List Int)) (hx : ∀ p ∈ xs, p.length ≤ 4194304) : ∀ a : Int, 0 ≤ a → a + sumOf lenI xs ≤ 1152921504606846976 →
  ∃ ys : List (List Int), ys.length = xs.length ∧ Ev (fun k => laws_markIntSS.go k xs a) (a + sumOf lenI xs, ys) ∧ ∀ (i : Nat) (h : i < ys.length), Ev (fun k => laws_heldIntS.f k ys[i] (a + sumOf lenI (xs.take i))) (a + sumOf lenI (xs.take (i + 1))) := by
 induction xs with
 | nil =>
  intro a _ _
  refine ⟨[], rfl, ⟨0, fun k _ => by simp only [laws_markIntSS.go, sumOf_nil, Int.add_zero]⟩, fun i h => by cases h⟩
 | cons x xs ih =>
  intro a h0 h1
  rw [sumOf_cons] at h1 ⊢
  have hs := sumOf_nonneg lenI_n xs
  have hx0 := lenI_n x
  obtain ⟨m, hm, hh⟩ := markI x (hx x (List.mem_cons_self ..)) a h0 (by omega)
  obtain ⟨ys, hl, hg, hd⟩ := ih (fun p hp => hx p (List.mem_cons_of_mem _ hp)) (a + lenI x) (by omega) (by omega)
  refine ⟨m :: ys, by rw [List.length_cons, List.length_cons, hl], ?_, fun i h => ?_⟩
  ·refine Ev.congr (fun k => by simp only [laws_markIntSS.go]; rfl) (Ev.bind hm ?_)
   refine Ev.bind hg ?_
   rw [← Int.add_assoc]
   exact Ev.now _
  ·cases i with
   | zero =>
    simp only [List.take_zero, List.take_succ_cons, sumOf_nil, sumOf_cons, Int.add_zero, List.getElem_cons_zero]
    exact hh
   | succ i =>
    have := hd i (by simpa using h)
    simp only [List.take_succ_cons, sumOf_cons, List.getElem_cons_succ]
    rw [← Int.add_assoc, ← Int.add_assoc]
    exact this
theorem heldII_l (xs ys : List (List Int)) (hl : ys.length = xs.length) (hn : xs.length ≤ 4194304) (a : Int) (h0 : 0 ≤ a) (hd : ∀ (i : Nat) (h : i < ys.length), Ev (fun k => laws_heldIntS.f k ys[i] (a + sumOf lenI (xs.take i))) (a + sumOf lenI (xs.take (i + 1)))) (d : Nat) : ∀ (i : Nat), i + d = xs.length →
  Ev (fun k => laws_heldIntSS.l0 k ys (a + sumOf lenI (xs.take i)) (i : Int)) (a + sumOf lenI xs) := by
 induction d with
 | zero =>
  intro i hi
  have e : i = xs.length := by omega
  subst e
  rw [List.take_length]
  refine Ev.step (fun k => ?_) (Ev.now _)
  simp only [laws_heldIntSS.l0]
  rw [if_neg (by omega)]
 | succ d ih =>
  intro i hi
  have hlt : i < ys.length := by omega
  have hn0 := sumOf_nonneg lenI_n (xs.take (i + 1))
  have e2 : wrap64 ((i : Int) + 1) = ((i + 1 : Nat) : Int) := by rw [w64 (by omega) (by omega)]; omega
  have sA : Ev (fun k => (laws_heldIntS.f k ys[i] (a + sumOf lenI (xs.take i))).bind fun t => if t < 0 then some (-1) else laws_heldIntSS.l0 k ys t ((i + 1 : Nat) : Int)) (a + sumOf lenI xs) := Ev.bind (hd i hlt) (Ev.congr (fun k => if_neg (by omega)) (ih (i + 1) (by omega)))
  refine Ev.step (fun k => ?_) sA
  simp only [laws_heldIntSS.l0]
  rw [if_pos (by omega), if_pos (by omega), rd_row ys i hlt, e2]
theorem markII (xs : List (List Int)) (hn : xs.length ≤ 4194304) (hx : ∀ p ∈ xs, p.length ≤ 1048576) : ∃ r ys, 0 ≤ r ∧ Ev (fun k => laws_markIntSS.f k xs 1) (r, ys) ∧ Ev (fun k => laws_heldIntSS.f k ys 1) r := by
 have hb : sumOf lenI xs ≤ (xs.length : Int) * 1048576 := by
  clear hn
  induction xs with
  | nil => simp [sumOf_nil]
  | cons x xs ih =>
   have h1 := ih (fun p hp => hx p (List.mem_cons_of_mem _ hp))
   have h2 := hx x (List.mem_cons_self ..)
   rw [sumOf_cons, List.length_cons]
   unfold lenI
   unfold lenI at h1
   omega
 have hs := sumOf_nonneg lenI_n xs
 obtain ⟨ys, hl, hg, hd⟩ := markII_go xs (fun p hp => by have := hx p hp; omega) 1 (by omega) (by omega)
 have h := heldII_l xs ys hl hn 1 (by omega) hd xs.length 0 (by omega)
 rw [List.take_zero, sumOf_nil, Int.add_zero] at h
 refine ⟨1 + sumOf lenI xs, ys, by omega, Ev.congr (fun k => by simp only [laws_markIntSS.f]; rw [if_pos (by omega)]) hg, Ev.congr (fun k => by simp only [laws_heldIntSS.f]; rfl) h⟩
theorem eqII_l (xs : List (List Int)) (hn : xs.length ≤ 4194304) (hx : ∀ p ∈ xs, p.length ≤ 1048576) (d : Nat) : ∀ (i : Nat), i + d = xs.length → Ev (fun k => laws_eqIntSS.l0 k xs xs (i : Int)) true := by
 induction d with
 | zero =>
  intro i hi
  refine Ev.step (fun k => ?_) (Ev.now true)
  simp only [laws_eqIntSS.l0]
  rw [if_neg (by omega)]
 | succ d ih =>
  intro i hi
  have hlt : i < xs.length := by omega
  have e2 : wrap64 ((i : Int) + 1) = ((i + 1 : Nat) : Int) := by rw [w64 (by omega) (by omega)]; omega
  have sA : Ev (fun k => (laws_eqIntS.f k xs[i] xs[i]).bind fun t => if t = true then laws_eqIntSS.l0 k xs xs ((i + 1 : Nat) : Int) else some false) true := Ev.bind (eqIntS_f xs[i] (hx _ (List.getElem_mem hlt))) (Ev.congr (fun k => if_pos rfl) (ih (i + 1) (by omega)))
  refine Ev.step (fun k => ?_) sA
  simp only [laws_eqIntSS.l0]
  rw [if_pos (by omega), if_pos (by omega), if_pos (by omega), rd_row xs i hlt, e2]
theorem eqII_f (xs : List (List Int)) (hn : xs.length ≤ 4194304) (hx : ∀ p ∈ xs, p.length ≤ 1048576) : Ev (fun k => laws_eqIntSS.f k xs xs) true := by
 refine Ev.congr (fun k => ?_) (eqII_l xs hn hx xs.length 0 (by omega))
 simp only [laws_eqIntSS.f]
 rw [if_pos trivial]
 simp
theorem FnExactPlaces : laws_FnExactPlaces.Pure := by
 intro x hw
 obtain ⟨r, hr, hrw⟩ := szNode_f x hw 1048576 (by omega) (by omega)
 refine Ev.rounds (r := true) ?_
 refine Ev.congr (fun k => by simp only [laws_FnExactPlaces.f]; rfl) (Ev.bind hr ?_)
 by_cases hn : r < 0
 ·exact Ev.congr (fun k => by rw [if_pos hn]) (Ev.now _)
 have hwn : wNode x ≤ 1048576 := by have := hrw (by omega); omega
 have hv : vNode (cNo x) ≤ 1048576 := by have := vNode_conv x; omega
 have hv0 := vNode_n (cNo x)
 have ht := toNode_f x hwn
 obtain ⟨L, s1, s2, s3, s4⟩ := places_same (cNo x) hv [] (by rw [List.length_nil]; omega)
 have s2 := s2 [] (by rw [List.length_nil]; omega)
 rw [List.nil_append] at s2
 have hq := eqII_f L (by omega) s4
 have hx := eqNode_f (cNo x) hv
 obtain ⟨m1, m2, hm, hm0, hm1⟩ := markNode_ev (cNo x) hv 1 (by omega) (by omega)
 obtain ⟨q1, q2, g0, g1, g2⟩ := markII L (by omega) s4
 have sp : Ev (fun k => spec_Places.f k x.f0 x.f1 x.f2 x.f3 (x.f4.map cDe) (x.f5.map cAt) (x.f6.map cNo) x.f7) L := by
  rw [convNode_eq] at s1
  exact Ev.congr (fun k => by simp only [spec_Places.f]) (Ev.bind s1 (Ev.now L))
 have ip : Ev (fun k => impl_Places.f k x.f0 x.f1 x.f2 x.f3 (x.f4.map cDe) (x.f5.map cAt) (x.f6.map cNo) x.f7) L := by
  rw [convNode_eq] at s2
  exact Ev.congr (fun k => by simp only [impl_Places.f]) s2
 have hmg : Ev (fun k => laws_markNode.g k ⟨x.f0, x.f1, x.f2, x.f3, x.f4.map cDe, x.f5.map cAt, x.f6.map cNo, x.f7⟩ 1) (m1, m2) := by rw [convNode_eq] at hm; exact hm
 rw [convNode_eq] at hx
 refine Ev.congr (fun k => by rw [if_neg hn]) (Ev.bind ht ?_)
 refine Ev.bind sp ?_
 refine Ev.bind ip ?_
 refine Ev.bind hq ?_
 refine Ev.bind hx ?_
 refine Ev.bind hmg ?_
 refine Ev.bind g1 ?_
 refine Ev.bind g2 ?_
 exact Ev.congr (fun k => by rw [if_pos ⟨rfl, rfl, by omega, by omega, rfl⟩]) (Ev.now _)

end FnExactPlaces_
theorem FnExactPlaces : laws_FnExactPlaces.Pure := FnExactPlaces_.FnExactPlaces
end Go.Proofs.Ytdbinpeglamnnaa.Pure
