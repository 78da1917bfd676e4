/- The program's InsertAt and the reference's answer alike at every tree, path, number and list of nodes; all of them read as they did; what it hands back is memory of its own, all rows apart.
Conditions: none. -/
import Derived.Test.YtglmahgliihkaaaSaidFnExactInsertAt
import Derived.Test.YtglmahgliihkaaaLists
namespace Go.Proofs.Ytglmahgliihkaaa.Pure
open Go.RowKit Go.Proofs.Ytglmahgliihkaaa.PY Go.Proofs.YtglmahgliihkaaaW.PrintWords Go.Proofs.YtglmahgliihkaaaW.PrintLast Go.Proofs.Ytglmahgliihkaaa.Lists
set_option linter.unusedVariables false
set_option linter.unusedSimpArgs false

namespace FnExactInsertAt_
theorem w64 {i : Int} (h0 : -9223372036854775808 ≤ i) (h1 : i ≤ 9223372036854775807) : wrap64 i = i := by unfold wrap64; omega
theorem rd_nat (l : List Int) (i : Nat) : rd l (i : Int) = l.getD i 0 := by simp [rd]
theorem toIntS_l (l : List Int) (hl : l.length ≤ 1048576) (d : Nat) : ∀ (i : Nat) (x : List Int), x.length = l.length → (∀ j, j < i → x[j]? = l[j]?) → i ≤ l.length → l.length - i = d →
  Ev (fun k => laws_toIntS.l0 k l x (i : Int)) l := by
 induction d with
 | zero =>
  intro i x hx hj hi hd
  have e : x = l := List.ext_getElem? (fun j => by
   by_cases hlt : j < i
   ·exact hj j hlt
   ·rw [List.getElem?_eq_none (by omega), List.getElem?_eq_none (by omega)])
  refine Ev.step (fun k => ?_) (Ev.now l)
  simp only [laws_toIntS.l0]
  rw [if_neg (by omega), e]
 | succ d ih =>
  intro i x hx hj hi hd
  refine Ev.step (fun k => ?_) (ih (i + 1) (x.set i (l.getD i 0)) (by simp [hx]) ?_ (by omega) (by omega))
  ·simp only [laws_toIntS.l0]
   rw [if_pos (by omega), if_pos (by omega), if_pos (by omega), rd_nat, w64 (by omega) (by omega)]
   simp
  ·intro j hlt
   by_cases e : j = i
   ·subst e
    rw [List.getElem?_set_self (by omega)]
    rw [List.getD_eq_getElem?_getD]
    rw [List.getElem?_eq_getElem (by omega)]
    simp
   ·rw [List.getElem?_set_ne (by omega)]
    exact hj j (by omega)
theorem toIntS_f (l : List Int) (hl : l.length ≤ 1048576) : Ev (fun k => laws_toIntS.f k l) l := by
 refine Ev.congr (fun k => ?_) (toIntS_l l hl l.length 0 (List.replicate l.length 0) (by simp) (by intro j h; omega) (by omega) (by omega))
 simp only [laws_toIntS.f]
 rw [if_pos (by omega), if_pos (by omega)]
 simp
theorem eqIntS_l (l : List Int) (hl : l.length ≤ 1048576) (d : Nat) : ∀ (i : Nat), i ≤ l.length → l.length - i = d → Ev (fun k => laws_eqIntS.l0 k l l (i : Int)) true := by
 induction d with
 | zero =>
  intro i hi hd
  refine Ev.step (fun k => ?_) (Ev.now true)
  simp only [laws_eqIntS.l0]
  rw [if_neg (by omega)]
 | succ d ih =>
  intro i hi hd
  refine Ev.step (fun k => ?_) (ih (i + 1) (by omega) (by omega))
  simp only [laws_eqIntS.l0]
  rw [if_pos (by omega), if_pos (by omega), if_pos (by omega), if_pos trivial, w64 (by omega) (by omega)]
  simp
theorem eqIntS_f (l : List Int) (hl : l.length ≤ 1048576) : Ev (fun k => laws_eqIntS.f k l l) true := by
 refine Ev.congr (fun k => ?_) (eqIntS_l l hl l.length 0 (by omega) (by omega))
 simp only [laws_eqIntS.f]
 rw [if_pos trivial]
 simp
def sameFrom (a b : List Int) (i n : Nat) : Prop := ∀ j, i ≤ j → j < n → a.getD j 0 = b.getD j 0
theorem rd_LDecl (l : List S64) (i : Nat) (h : i < l.length) : rd_T64 l (i : Int) = l[i] := by simp [rd_T64, List.getD_eq_getElem?_getD, List.getElem?_eq_getElem h]
def cDe (x : S64) : S69 := ⟨x.f0, x.f1⟩
theorem eqDecl_f (x : S69) : laws_eqDecl.f x.f0 x.f1 x.f0 x.f1 = some true := by
 unfold laws_eqDecl.f
 simp
def wDecl (x : S64) : Int := (x.f0.size : Int) + (x.f1.size : Int)
theorem wDecl_n (x : S64) : 0 ≤ wDecl x := by unfold wDecl; omega
theorem szDecl_f (x : S64) (left : Int) (hw : WF64 x) (h0 : 0 ≤ left) (h1 : left ≤ 1048576) : ∃ r, laws_szDecl.f x.f0 x.f1 left = some r ∧ (0 ≤ r → r + wDecl x = left) := by
 obtain ⟨h_0, h_1⟩ := hw
 unfold maxLen at h_0 h_1
 unfold laws_szDecl.f wrap64 wDecl
 split
 ·exact ⟨_, rfl, by omega⟩
 split
 ·exact ⟨_, rfl, by omega⟩
 exact ⟨_, rfl, fun _ => by omega⟩
theorem szDeclS_f (l : List S64) (hw : l.length ≤ maxLen ∧ ∀ x ∈ l, WF64 x) (left : Int) (h0 : 0 ≤ left) (h1 : left ≤ 1048576) : ∃ r, Ev (fun k => laws_szDeclS.f k l left) r ∧ (0 ≤ r → r + ((l.length : Int) + sumOf wDecl l) = left) := by
 obtain ⟨hl, hw⟩ := hw
 unfold maxLen at hl
 have e : wrap64 (left - (l.length : Int)) = left - (l.length : Int) := w64 (by omega) (by omega)
 by_cases hn : left - (l.length : Int) < 0
 ·exact ⟨-1, Ev.congr (fun k => by simp only [laws_szDeclS.f]; rw [e, if_pos hn]) (Ev.now _), fun h => by omega⟩
 ·obtain ⟨r, hr, hrw⟩ := size_all (l := l) (w := wDecl) (M := 1048576) (G := fun k left i => laws_szDeclS.l0 k l left i) (H := fun _ left i => laws_szDecl.f (rd_T64 l (i : Int)).f0 (rd_T64 l (i : Int)).f1 left) wDecl_n
   (fun k left i h0 hi => by simp only [laws_szDeclS.l0]; rw [if_pos (by omega), if_pos (by omega), w64 (by omega) (by omega)])
   (fun i hi left h0 h1 => by
    obtain ⟨r, a, b⟩ := szDecl_f l[i] left (hw _ (List.getElem_mem hi)) h0 h1
    exact ⟨r, Ev.congr (fun k => by rw [rd_LDecl l i hi]; exact a) (Ev.now r), b⟩)
   (fun k left h0 => by simp only [laws_szDeclS.l0]; rw [if_neg (by omega)]) (left - (l.length : Int)) (by omega) (by omega)
  exact ⟨r, Ev.congr (fun k => by simp only [laws_szDeclS.f]; rw [e, if_neg hn]) hr, fun h => by have := hrw h; omega⟩
theorem toDeclS_f (l : List S64) (hl : l.length ≤ 1048576) : Ev (fun k => laws_toDeclS.f k l) (l.map cDe) := by
 have h := copy_all (l := l) (f := cDe) (G := fun k x i => laws_toDeclS.l0 k l x i) (H := fun _ i => some (cDe (rd_T64 l (i : Int)))) (List.replicate l.length z69) (by simp)
  (fun k x i hx hi => by
   simp only [laws_toDeclS.l0, laws_toDecl.f, Option.bind_some]
   rw [if_pos (by omega), if_pos (by omega), if_pos (by omega), w64 (by omega) (by omega), Int.toNat_natCast]
   rfl)
  (fun i hi => by rw [rd_LDecl l i hi]; exact Ev.now _) (fun k x hx => by simp only [laws_toDeclS.l0]; rw [if_neg (by omega)])
 refine Ev.congr (fun k => ?_) h
 simp only [laws_toDeclS.f, Int.toNat_natCast]
 rw [if_pos (by omega), if_pos (by omega)]
theorem eqDeclS_f (l : List S69) (hl : l.length ≤ 1048576) : Ev (fun k => laws_eqDeclS.f k l l) true := by
 have h := all_all (n := l.length) (G := fun k i => laws_eqDeclS.l0 k l l i) (H := fun _ i => laws_eqDecl.f (rd_T69 l (i : Int)).f0 (rd_T69 l (i : Int)).f1 (rd_T69 l (i : Int)).f0 (rd_T69 l (i : Int)).f1)
  (fun k i hi => by simp only [laws_eqDeclS.l0]; rw [if_pos (by omega), if_pos (by omega), if_pos (by omega), w64 (by omega) (by omega)])
  (fun i hi => Ev.congr (fun k => eqDecl_f _) (Ev.now true)) (fun k => by simp only [laws_eqDeclS.l0]; rw [if_neg (by omega)])
 refine Ev.congr (fun k => ?_) h
 simp only [laws_eqDeclS.f]
 rw [if_pos trivial]
theorem rd_LAttr (l : List S67) (i : Nat) (h : i < l.length) : rd_T67 l (i : Int) = l[i] := by simp [rd_T67, List.getD_eq_getElem?_getD, List.getElem?_eq_getElem h]
def cAt (x : S67) : S71 := ⟨x.f0, x.f1, x.f2, x.f3⟩
theorem eqAttr_f (x : S71) : laws_eqAttr.f x.f0 x.f1 x.f2 x.f3 x.f0 x.f1 x.f2 x.f3 = some true := by
 unfold laws_eqAttr.f
 simp
def wAttr (x : S67) : Int := (x.f0.size : Int) + (x.f1.size : Int) + (x.f2.size : Int) + (x.f3.size : Int)
theorem wAttr_n (x : S67) : 0 ≤ wAttr x := by unfold wAttr; omega
theorem szAttr_f (x : S67) (left : Int) (hw : WF67 x) (h0 : 0 ≤ left) (h1 : left ≤ 1048576) : ∃ r, laws_szAttr.f x.f0 x.f1 x.f2 x.f3 left = some r ∧ (0 ≤ r → r + wAttr x = left) := by
 obtain ⟨h_0, h_1, h_2, h_3⟩ := hw
 unfold maxLen at h_0 h_1 h_2 h_3
 unfold laws_szAttr.f wrap64 wAttr
 split
 ·exact ⟨_, rfl, by omega⟩
 split
 ·exact ⟨_, rfl, by omega⟩
 split
 ·exact ⟨_, rfl, by omega⟩
 split
 ·exact ⟨_, rfl, by omega⟩
 exact ⟨_, rfl, fun _ => by omega⟩
theorem szAttrS_f (l : List S67) (hw : l.length ≤ maxLen ∧ ∀ x ∈ l, WF67 x) (left : Int) (h0 : 0 ≤ left) (h1 : left ≤ 1048576) : ∃ r, Ev (fun k => laws_szAttrS.f k l left) r ∧ (0 ≤ r → r + ((l.length : Int) + sumOf wAttr l) = left) := by
 obtain ⟨hl, hw⟩ := hw
 unfold maxLen at hl
 have e : wrap64 (left - (l.length : Int)) = left - (l.length : Int) := w64 (by omega) (by omega)
 by_cases hn : left - (l.length : Int) < 0
 ·exact ⟨-1, Ev.congr (fun k => by simp only [laws_szAttrS.f]; rw [e, if_pos hn]) (Ev.now _), fun h => by omega⟩
 ·obtain ⟨r, hr, hrw⟩ := size_all (l := l) (w := wAttr) (M := 1048576) (G := fun k left i => laws_szAttrS.l0 k l left i) (H := fun _ left i => laws_szAttr.f (rd_T67 l (i : Int)).f0 (rd_T67 l (i : Int)).f1 (rd_T67 l (i : Int)).f2 (rd_T67 l (i : Int)).f3 left) wAttr_n
   (fun k left i h0 hi => by simp only [laws_szAttrS.l0]; rw [if_pos (by omega), if_pos (by omega), w64 (by omega) (by omega)])
   (fun i hi left h0 h1 => by
    obtain ⟨r, a, b⟩ := szAttr_f l[i] left (hw _ (List.getElem_mem hi)) h0 h1
    exact ⟨r, Ev.congr (fun k => by rw [rd_LAttr l i hi]; exact a) (Ev.now r), b⟩)
   (fun k left h0 => by simp only [laws_szAttrS.l0]; rw [if_neg (by omega)]) (left - (l.length : Int)) (by omega) (by omega)
  exact ⟨r, Ev.congr (fun k => by simp only [laws_szAttrS.f]; rw [e, if_neg hn]) hr, fun h => by have := hrw h; omega⟩
theorem toAttrS_f (l : List S67) (hl : l.length ≤ 1048576) : Ev (fun k => laws_toAttrS.f k l) (l.map cAt) := by
 have h := copy_all (l := l) (f := cAt) (G := fun k x i => laws_toAttrS.l0 k l x i) (H := fun _ i => some (cAt (rd_T67 l (i : Int)))) (List.replicate l.length z71) (by simp)
  (fun k x i hx hi => by
   simp only [laws_toAttrS.l0, laws_toAttr.f, Option.bind_some]
   rw [if_pos (by omega), if_pos (by omega), if_pos (by omega), w64 (by omega) (by omega), Int.toNat_natCast]
   rfl)
  (fun i hi => by rw [rd_LAttr l i hi]; exact Ev.now _) (fun k x hx => by simp only [laws_toAttrS.l0]; rw [if_neg (by omega)])
 refine Ev.congr (fun k => ?_) h
 simp only [laws_toAttrS.f, Int.toNat_natCast]
 rw [if_pos (by omega), if_pos (by omega)]
theorem eqAttrS_f (l : List S71) (hl : l.length ≤ 1048576) : Ev (fun k => laws_eqAttrS.f k l l) true := by
 have h := all_all (n := l.length) (G := fun k i => laws_eqAttrS.l0 k l l i) (H := fun _ i => laws_eqAttr.f (rd_T71 l (i : Int)).f0 (rd_T71 l (i : Int)).f1 (rd_T71 l (i : Int)).f2 (rd_T71 l (i : Int)).f3 (rd_T71 l (i : Int)).f0 (rd_T71 l (i : Int)).f1 (rd_T71 l (i : Int)).f2 (rd_T71 l (i : Int)).f3)
  (fun k i hi => by simp only [laws_eqAttrS.l0]; rw [if_pos (by omega), if_pos (by omega), if_pos (by omega), w64 (by omega) (by omega)])
  (fun i hi => Ev.congr (fun k => eqAttr_f _) (Ev.now true)) (fun k => by simp only [laws_eqAttrS.l0]; rw [if_neg (by omega)])
 refine Ev.congr (fun k => ?_) h
 simp only [laws_eqAttrS.f]
 rw [if_pos trivial]
theorem rd_LNode (l : List S26) (i : Nat) (h : i < l.length) : rd_T26 l (i : Int) = l[i] := by simp [rd_T26, List.getD_eq_getElem?_getD, List.getElem?_eq_getElem h]
theorem rd_INode (l : List S34) (i : Nat) (h : i < l.length) : rd_T34 l (i : Int) = l[i] := by simp [rd_T34, List.getD_eq_getElem?_getD, List.getElem?_eq_getElem h]
theorem kidL (x y : S26) (h : y ∈ x.f6) : SizeOf.sizeOf y < SizeOf.sizeOf x := by
 have := List.sizeOf_lt_of_mem h
 cases x
 simp at this ⊢
 omega
theorem kidI (x y : S34) (h : y ∈ x.f6) : SizeOf.sizeOf y < SizeOf.sizeOf x := by
 have := List.sizeOf_lt_of_mem h
 cases x
 simp at this ⊢
 omega
theorem indL {P : S26 → Prop} (h : ∀ x, (∀ y ∈ x.f6, P y) → P x) (x : S26) : P x := by
 have : ∀ n (x : S26), SizeOf.sizeOf x < n → P x := by
  intro n
  induction n with
  | zero => intro x hx; omega
  | succ n ih => intro x hx; exact h x (fun y hy => ih y (by have := kidL x y hy; omega))
 exact this _ x (Nat.lt_succ_self _)
theorem indI {P : S34 → Prop} (h : ∀ x, (∀ y ∈ x.f6, P y) → P x) (x : S34) : P x := by
 have : ∀ n (x : S34), SizeOf.sizeOf x < n → P x := by
  intro n
  induction n with
  | zero => intro x hx; omega
  | succ n ih => intro x hx; exact h x (fun y hy => ih y (by have := kidI x y hy; omega))
 exact this _ x (Nat.lt_succ_self _)
mutual
def wNode : S26 → Int
 | ⟨_, a, b, c, ds, ats, ks, t⟩ => (a.size : Int) + (b.size : Int) + (c.size : Int) + ((ds.length : Int) + sumOf wDecl ds) + ((ats.length : Int) + sumOf wAttr ats) + ((ks.length : Int) + wNodes ks) + (t.size : Int)
def wNodes : List S26 → Int
 | [] => 0
 | x :: xs => wNode x + wNodes xs
end
theorem wNodes_eq (l : List S26) : wNodes l = sumOf wNode l := by
 induction l with
 | nil => rfl
 | cons x l ih => rw [sumOf_cons, ← ih]; rfl
theorem wNode_eq (x : S26) : wNode x = (x.f1.size : Int) + (x.f2.size : Int) + (x.f3.size : Int) + ((x.f4.length : Int) + sumOf wDecl x.f4) + ((x.f5.length : Int) + sumOf wAttr x.f5) + ((x.f6.length : Int) + sumOf wNode x.f6) + (x.f7.size : Int) := by
 cases x
 rw [wNode, wNodes_eq]
theorem sum_nonneg_of {α : Type} {w : α → Int} {l : List α} (h : ∀ x ∈ l, 0 ≤ w x) : 0 ≤ sumOf w l := by
 induction l with
 | nil => exact Int.le_refl _
 | cons z m ihm => rw [sumOf_cons]; have := h z (List.mem_cons_self ..); have := ihm (fun x hx => h x (List.mem_cons_of_mem _ hx)); omega
theorem wNode_n (x : S26) : 0 ≤ wNode x := by
 induction x using indL with
 | h x ih =>
  rw [wNode_eq]
  have := sumOf_nonneg wDecl_n x.f4
  have := sumOf_nonneg wAttr_n x.f5
  have := sum_nonneg_of ih
  omega
theorem wNode_bounds (x : S26) : (x.f4.length : Int) ≤ wNode x ∧ (x.f5.length : Int) ≤ wNode x ∧ (x.f6.length : Int) ≤ wNode x ∧ sumOf wNode x.f6 ≤ wNode x ∧ ∀ y ∈ x.f6, wNode y ≤ wNode x := by
 rw [wNode_eq]
 have := sumOf_nonneg wDecl_n x.f4
 have := sumOf_nonneg wAttr_n x.f5
 have := sumOf_nonneg wNode_n x.f6
 refine ⟨by omega, by omega, by omega, by omega, fun y hy => ?_⟩
 have := sumOf_mem wNode_n hy
 omega
mutual
def cNo : S26 → S34
 | ⟨k, a, b, c, ds, ats, ks, t⟩ => ⟨k, a, b, c, ds.map cDe, ats.map cAt, cNos ks, t⟩
def cNos : List S26 → List S34
 | [] => []
 | x :: xs => cNo x :: cNos xs
end
theorem convNodes_eq (l : List S26) : cNos l = l.map cNo := by
 induction l with
 | nil => rfl
 | cons x l ih => rw [List.map_cons, ← ih]; rfl
theorem convNode_eq (x : S26) : cNo x = ⟨x.f0, x.f1, x.f2, x.f3, x.f4.map cDe, x.f5.map cAt, x.f6.map cNo, x.f7⟩ := by
 cases x
 rw [cNo, convNodes_eq]
mutual
def vNode : S34 → Int
 | ⟨_, _, _, _, ds, ats, ks, _⟩ => (ds.length : Int) + (ats.length : Int) + ((ks.length : Int) + vNodes ks)
def vNodes : List S34 → Int
 | [] => 0
 | x :: xs => vNode x + vNodes xs
end
theorem vNodes_eq (l : List S34) : vNodes l = sumOf vNode l := by
 induction l with
 | nil => rfl
 | cons x l ih => rw [sumOf_cons, ← ih]; rfl
theorem vNode_eq (x : S34) : vNode x = (x.f4.length : Int) + (x.f5.length : Int) + ((x.f6.length : Int) + sumOf vNode x.f6) := by
 cases x
 rw [vNode, vNodes_eq]
theorem vNode_n (x : S34) : 0 ≤ vNode x := by
 induction x using indI with
 | h x ih =>
  rw [vNode_eq]
  have := sum_nonneg_of ih
  omega
theorem vNode_bounds (x : S34) : (x.f4.length : Int) ≤ vNode x ∧ (x.f5.length : Int) ≤ vNode x ∧ (x.f6.length : Int) ≤ vNode x ∧ sumOf vNode x.f6 ≤ vNode x ∧ ∀ y ∈ x.f6, vNode y ≤ vNode x := by
 rw [vNode_eq]
 have := sumOf_nonneg vNode_n x.f6
 refine ⟨by omega, by omega, by omega, by omega, fun y hy => ?_⟩
 have := sumOf_mem vNode_n hy
 omega
theorem sumOf_map_le {α β : Type} {f : α → β} {v : β → Int} {w : α → Int} {l : List α} (h : ∀ x ∈ l, v (f x) ≤ w x) : sumOf v (l.map f) ≤ sumOf w l := by
 induction l with
 | nil => exact Int.le_refl _
 | cons z m ihm => rw [List.map_cons, sumOf_cons, sumOf_cons]; have := h z (List.mem_cons_self ..); have := ihm (fun x hx => h x (List.mem_cons_of_mem _ hx)); omega
theorem vNode_conv (x : S26) : vNode (cNo x) ≤ wNode x := by
 induction x using indL with
 | h x ih =>
  rw [wNode_eq, convNode_eq, vNode_eq]
  have := sumOf_nonneg wDecl_n x.f4
  have := sumOf_nonneg wAttr_n x.f5
  have := sumOf_map_le ih
  simp only [List.length_map]
  omega
theorem szNodeS_of (l : List S26) (hl : l.length ≤ maxLen) (hx : ∀ x ∈ l, ∀ left, 0 ≤ left → left ≤ 1048576 → ∃ r, Ev (fun k => laws_szNode.f k x.f0 x.f1 x.f2 x.f3 x.f4 x.f5 x.f6 x.f7 left) r ∧ (0 ≤ r → r + wNode x = left)) (left : Int) (h0 : 0 ≤ left) (h1 : left ≤ 1048576) :
  ∃ r, Ev (fun k => laws_szNodeS.f k l left) r ∧ (0 ≤ r → r + ((l.length : Int) + sumOf wNode l) = left) := by
 unfold maxLen at hl
 have e : wrap64 (left - (l.length : Int)) = left - (l.length : Int) := w64 (by omega) (by omega)
 by_cases hn : left - (l.length : Int) < 0
 ·exact ⟨-1, Ev.step (fun k => by simp only [laws_szNodeS.f]; rw [e, if_pos hn]) (Ev.now _), fun h => by omega⟩
 ·obtain ⟨r, hr, hrw⟩ := size_all (l := l) (w := wNode) (M := 1048576) (G := fun k left i => laws_szNodeS.l0 k l left i) (H := fun k left i => laws_szNode.f k (rd_T26 l (i : Int)).f0 (rd_T26 l (i : Int)).f1 (rd_T26 l (i : Int)).f2 (rd_T26 l (i : Int)).f3 (rd_T26 l (i : Int)).f4 (rd_T26 l (i : Int)).f5 (rd_T26 l (i : Int)).f6 (rd_T26 l (i : Int)).f7 left) wNode_n
   (fun k left i h0 hi => by simp only [laws_szNodeS.l0]; rw [if_pos (by omega), if_pos (by omega), w64 (by omega) (by omega)]; rfl)
   (fun i hi left h0 h1 => by
    obtain ⟨r, a, b⟩ := hx l[i] (List.getElem_mem hi) left h0 h1
    exact ⟨r, Ev.congr (fun k => by rw [rd_LNode l i hi]) a, b⟩)
   (fun k left h0 => by simp only [laws_szNodeS.l0]; rw [if_neg (by omega)]) (left - (l.length : Int)) (by omega) (by omega)
  exact ⟨r, Ev.step (fun k => by simp only [laws_szNodeS.f]; rw [e, if_neg hn]) hr, fun h => by have := hrw h; omega⟩
theorem szNode_f (x : S26) : WF26 x → ∀ left, 0 ≤ left → left ≤ 1048576 → ∃ r, Ev (fun k => laws_szNode.f k x.f0 x.f1 x.f2 x.f3 x.f4 x.f5 x.f6 x.f7 left) r ∧ (0 ≤ r → r + wNode x = left) := by
 induction x using indL with
 | h x ih =>
  intro hw left h0 h1
  obtain ⟨_, s0, s1, s2, s3, s4, s5, g6, s6, s7⟩ := hw
  unfold maxLen at s1 s2 s3 s7
  have nd := sumOf_nonneg wDecl_n x.f4
  have na := sumOf_nonneg wAttr_n x.f5
  have nk := sumOf_nonneg wNode_n x.f6
  rw [wNode_eq]
  have e1 : wrap64 (left - (x.f1.size : Int)) = left - (x.f1.size : Int) := w64 (by omega) (by omega)
  by_cases n1 : left - (x.f1.size : Int) < 0
  ·exact ⟨-1, Ev.congr (fun k => by simp only [laws_szNode.f, laws_szNode.F]; rw [e1, if_pos n1]) (Ev.now _), fun h => by omega⟩
  have e2 : wrap64 (left - (x.f1.size : Int) - (x.f2.size : Int)) = left - (x.f1.size : Int) - (x.f2.size : Int) := w64 (by omega) (by omega)
  by_cases n2 : left - (x.f1.size : Int) - (x.f2.size : Int) < 0
  ·exact ⟨-1, Ev.congr (fun k => by simp only [laws_szNode.f, laws_szNode.F]; rw [e1, if_neg n1, e2, if_pos n2]) (Ev.now _), fun h => by omega⟩
  have e3 : wrap64 (left - (x.f1.size : Int) - (x.f2.size : Int) - (x.f3.size : Int)) = left - (x.f1.size : Int) - (x.f2.size : Int) - (x.f3.size : Int) := w64 (by omega) (by omega)
  by_cases n3 : left - (x.f1.size : Int) - (x.f2.size : Int) - (x.f3.size : Int) < 0
  ·exact ⟨-1, Ev.congr (fun k => by simp only [laws_szNode.f, laws_szNode.F]; rw [e1, if_neg n1, e2, if_neg n2, e3, if_pos n3]) (Ev.now _), fun h => by omega⟩
  have hd : ∀ (r : Int) (g : Nat → Option Int), Ev (fun k => (laws_szDeclS.f k x.f4 (left - (x.f1.size : Int) - (x.f2.size : Int) - (x.f3.size : Int))).bind fun t108 => (if t108 < 0 then (some (-1)) else ((laws_szAttrS.f k x.f5 t108).bind fun t109 => (if t109 < 0 then (some (-1)) else ((laws_szNodeS.f k x.f6 t109).bind fun t110 => (if t110 < 0 then (some (-1)) else (if (wrap64 (t110 - (x.f7.size : Int))) < 0 then (some (-1)) else (some (wrap64 (t110 - (x.f7.size : Int))))))))))) r → Ev (fun k => laws_szNode.f k x.f0 x.f1 x.f2 x.f3 x.f4 x.f5 x.f6 x.f7 left) r := fun r g h =>
   Ev.congr (fun k => by simp only [laws_szNode.f, laws_szNode.F]; rw [e1, if_neg n1, e2, if_neg n2, e3, if_neg n3]) h
  obtain ⟨r4, hr4, hw4⟩ := szDeclS_f x.f4 s4 (left - (x.f1.size : Int) - (x.f2.size : Int) - (x.f3.size : Int)) (by omega) (by omega)
  by_cases n4 : r4 < 0
  ·exact ⟨-1, hd _ (fun _ => none) (Ev.bind hr4 (Ev.congr (fun k => by rw [if_pos n4]) (Ev.now _))), fun h => by omega⟩
  have w4 := hw4 (by omega)
  obtain ⟨r5, hr5, hw5⟩ := szAttrS_f x.f5 s5 r4 (by omega) (by omega)
  by_cases n5 : r5 < 0
  ·exact ⟨-1, hd _ (fun _ => none) (Ev.bind hr4 (Ev.congr (fun k => by rw [if_neg n4]) (Ev.bind hr5 (Ev.congr (fun k => by rw [if_pos n5]) (Ev.now _))))), fun h => by omega⟩
  have w5 := hw5 (by omega)
  obtain ⟨r6, hr6, hw6⟩ := szNodeS_of x.f6 g6 (fun y hy => ih y hy (s6 y hy)) r5 (by omega) (by omega)
  by_cases n6 : r6 < 0
  ·exact ⟨-1, hd _ (fun _ => none) (Ev.bind hr4 (Ev.congr (fun k => by rw [if_neg n4]) (Ev.bind hr5 (Ev.congr (fun k => by rw [if_neg n5]) (Ev.bind hr6 (Ev.congr (fun k => by rw [if_pos n6]) (Ev.now _))))))), fun h => by omega⟩
  have w6 := hw6 (by omega)
  have e7 : wrap64 (r6 - (x.f7.size : Int)) = r6 - (x.f7.size : Int) := w64 (by omega) (by omega)
  by_cases n7 : r6 - (x.f7.size : Int) < 0
  ·exact ⟨-1, hd _ (fun _ => none) (Ev.bind hr4 (Ev.congr (fun k => by rw [if_neg n4]) (Ev.bind hr5 (Ev.congr (fun k => by rw [if_neg n5]) (Ev.bind hr6 (Ev.congr (fun k => by rw [if_neg n6, e7, if_pos n7]) (Ev.now _))))))), fun h => by omega⟩
  ·exact ⟨r6 - (x.f7.size : Int), hd _ (fun _ => none) (Ev.bind hr4 (Ev.congr (fun k => by rw [if_neg n4]) (Ev.bind hr5 (Ev.congr (fun k => by rw [if_neg n5]) (Ev.bind hr6 (Ev.congr (fun k => by rw [if_neg n6, e7, if_neg n7]) (Ev.now _))))))), fun h => by omega⟩
theorem szNodeS_f (l : List S26) (hl : l.length ≤ maxLen ∧ ∀ x ∈ l, WF26 x) (left : Int) (h0 : 0 ≤ left) (h1 : left ≤ 1048576) :
  ∃ r, Ev (fun k => laws_szNodeS.f k l left) r ∧ (0 ≤ r → r + ((l.length : Int) + sumOf wNode l) = left) :=
 szNodeS_of l hl.1 (fun x hx => szNode_f x (hl.2 x hx)) left h0 h1
theorem toNodeS_of (l : List S26) (hl : l.length ≤ 1048576) (hx : ∀ x ∈ l, Ev (fun k => laws_toNode.f k x.f0 x.f1 x.f2 x.f3 x.f4 x.f5 x.f6 x.f7) (x.f0, x.f1, x.f2, x.f3, x.f4.map cDe, x.f5.map cAt, x.f6.map cNo, x.f7)) : Ev (fun k => laws_toNodeS.f k l) (l.map cNo) := by
 have h := copy_all (l := l) (f := cNo) (G := fun k x i => laws_toNodeS.l0 k l x i) (H := fun k i => (laws_toNode.f k (rd_T26 l (i : Int)).f0 (rd_T26 l (i : Int)).f1 (rd_T26 l (i : Int)).f2 (rd_T26 l (i : Int)).f3 (rd_T26 l (i : Int)).f4 (rd_T26 l (i : Int)).f5 (rd_T26 l (i : Int)).f6 (rd_T26 l (i : Int)).f7).bind fun q => some (⟨q.1, q.2.1, q.2.2.1, q.2.2.2.1, q.2.2.2.2.1, q.2.2.2.2.2.1, q.2.2.2.2.2.2.1, q.2.2.2.2.2.2.2⟩ : S34)) (List.replicate l.length z34) (by simp)
  (fun k x i hx hi => by
   simp only [laws_toNodeS.l0]
   rw [if_pos (by omega), if_pos (by omega), w64 (by omega) (by omega), Int.toNat_natCast, Option.bind_assoc]
   simp only [Option.bind_some]
   simp only [show (i : Int) < (x.length : Int) from by omega, if_true]
   rfl)
  (fun i hi => by
   rw [rd_LNode l i hi]
   refine Ev.bind (hx l[i] (List.getElem_mem hi)) ?_
   rw [convNode_eq]
   exact Ev.now _) (fun k x hx => by simp only [laws_toNodeS.l0]; rw [if_neg (by omega)])
 refine Ev.step (fun k => ?_) h
 simp only [laws_toNodeS.f, Int.toNat_natCast]
 rw [if_pos (by omega), if_pos (by omega)]
theorem toNode_f (x : S26) : wNode x ≤ 1048576 → Ev (fun k => laws_toNode.f k x.f0 x.f1 x.f2 x.f3 x.f4 x.f5 x.f6 x.f7) (x.f0, x.f1, x.f2, x.f3, x.f4.map cDe, x.f5.map cAt, x.f6.map cNo, x.f7) := by
 induction x using indL with
 | h x ih =>
  intro hw
  obtain ⟨b4, b5, b6, _, bk⟩ := wNode_bounds x
  refine Ev.congr (g := fun k => laws_toNode.f k x.f0 x.f1 x.f2 x.f3 x.f4 x.f5 x.f6 x.f7) (f := fun k => (laws_toDeclS.f k x.f4).bind fun d => (laws_toAttrS.f k x.f5).bind fun a => (laws_toNodeS.f k x.f6).bind fun n => some (x.f0, x.f1, x.f2, x.f3, d, a, n, x.f7)) (fun k => rfl) ?_
  refine Ev.bind (toDeclS_f x.f4 (by omega)) (Ev.bind (toAttrS_f x.f5 (by omega)) (Ev.bind (toNodeS_of x.f6 (by omega) (fun y hy => ih y hy (by have := bk y hy; omega))) (Ev.now _)))
theorem toNodeS_f (l : List S26) (hl : l.length ≤ 1048576) (hw : ∀ x ∈ l, wNode x ≤ 1048576) : Ev (fun k => laws_toNodeS.f k l) (l.map cNo) :=
 toNodeS_of l hl (fun x hx => toNode_f x (hw x hx))
theorem eqNodeS_of (l : List S34) (hl : l.length ≤ 1048576) (hx : ∀ x ∈ l, Ev (fun k => laws_eqNode.f k x.f0 x.f1 x.f2 x.f3 x.f4 x.f5 x.f6 x.f7 x.f0 x.f1 x.f2 x.f3 x.f4 x.f5 x.f6 x.f7) true) : Ev (fun k => laws_eqNodeS.f k l l) true := by
 have h := all_all (n := l.length) (G := fun k i => laws_eqNodeS.l0 k l l i) (H := fun k i => laws_eqNode.f k (rd_T34 l (i : Int)).f0 (rd_T34 l (i : Int)).f1 (rd_T34 l (i : Int)).f2 (rd_T34 l (i : Int)).f3 (rd_T34 l (i : Int)).f4 (rd_T34 l (i : Int)).f5 (rd_T34 l (i : Int)).f6 (rd_T34 l (i : Int)).f7 (rd_T34 l (i : Int)).f0 (rd_T34 l (i : Int)).f1 (rd_T34 l (i : Int)).f2 (rd_T34 l (i : Int)).f3 (rd_T34 l (i : Int)).f4 (rd_T34 l (i : Int)).f5 (rd_T34 l (i : Int)).f6 (rd_T34 l (i : Int)).f7)
  (fun k i hi => by simp only [laws_eqNodeS.l0]; rw [if_pos (by omega), if_pos (by omega), if_pos (by omega), w64 (by omega) (by omega)]; rfl)
  (fun i hi => by rw [rd_INode l i hi]; exact hx l[i] (List.getElem_mem hi)) (fun k => by simp only [laws_eqNodeS.l0]; rw [if_neg (by omega)])
 refine Ev.step (fun k => ?_) h
 simp only [laws_eqNodeS.f]
 rw [if_pos trivial]
theorem eqNode_f (x : S34) : vNode x ≤ 1048576 → Ev (fun k => laws_eqNode.f k x.f0 x.f1 x.f2 x.f3 x.f4 x.f5 x.f6 x.f7 x.f0 x.f1 x.f2 x.f3 x.f4 x.f5 x.f6 x.f7) true := by
 induction x using indI with
 | h x ih =>
  intro hw
  obtain ⟨b4, b5, b6, _, bk⟩ := vNode_bounds x
  refine Ev.congr (f := fun k => (laws_eqDeclS.f k x.f4 x.f4).bind fun t => (if t = true then ((laws_eqAttrS.f k x.f5 x.f5).bind fun t => (if t = true then ((laws_eqNodeS.f k x.f6 x.f6).bind fun t => (if t = true then some true else some false)) else (some false))) else (some false))) (fun k => by simp [laws_eqNode.f, laws_eqNode.F]) ?_
  refine Ev.bind (eqDeclS_f x.f4 (by omega)) (Ev.congr (fun k => by rw [if_pos rfl]) (Ev.bind (eqAttrS_f x.f5 (by omega)) (Ev.congr (fun k => by rw [if_pos rfl]) (Ev.bind (eqNodeS_of x.f6 (by omega) (fun y hy => ih y hy (by have := bk y hy; omega))) (Ev.congr (fun k => by rw [if_pos rfl]) (Ev.now _))))))
theorem eqNodeS_f (l : List S34) (hl : l.length ≤ 1048576) (hw : ∀ x ∈ l, vNode x ≤ 1048576) : Ev (fun k => laws_eqNodeS.f k l l) true :=
 eqNodeS_of l hl (fun x hx => eqNode_f x (hw x hx))
theorem strOfNums_size (xs : List Int) : (strOfNums xs).size = xs.length := by
 unfold strOfNums
 simp [ByteArray.size]
theorem markText_l0 (n : Nat) : ∀ (i : Int) (acc : ByteArray), 0 ≤ i → i.toNat ≤ n → i ≤ 1152921504606846976 → (acc.size : Int) + i ≤ 2305843009213693952 → ∃ t, Ev (fun k => laws_markText.l0 k i acc) t := by
 induction n using Nat.strongRecOn with
 | _ n ih =>
  intro i acc h0 hn hi ha
  by_cases hp : i > 0
  ·have e1 : Int.tdiv i 10 = i / 10 := Int.tdiv_eq_ediv_of_nonneg h0
   have hs : (strOfNums [wrap64 (48 + (Int.tmod i 10)) % 256]).size = 1 := by rw [strOfNums_size]; rfl
   have hap : ((strOfNums [wrap64 (48 + (Int.tmod i 10)) % 256]) ++ acc).size = 1 + acc.size := by rw [ByteArray.size_append, hs]
   obtain ⟨t, ht⟩ := ih (i / 10).toNat (by omega) (i / 10) ((strOfNums [wrap64 (48 + (Int.tmod i 10)) % 256]) ++ acc) (by omega) (by omega) (by omega) (by rw [hap]; omega)
   refine ⟨t, Ev.step (fun k => ?_) ht⟩
   simp only [laws_markText.l0, Option.bind_some]
   rw [if_pos hp, if_pos (by rw [hs]; omega), e1, w64 (by omega) (by omega)]
  ·refine ⟨(⟨#[109]⟩ : ByteArray) ++ acc, Ev.step (fun k => ?_) (Ev.now _)⟩
   simp only [laws_markText.l0]
   rw [if_neg hp, if_pos (by omega)]
theorem markText_ex (i : Int) (hi : i ≤ 1152921504606846976) : ∃ t, Ev (fun k => laws_markText.f k i) t := by
 by_cases h : i ≤ 0
 ·exact ⟨_, Ev.congr (fun k => by simp only [laws_markText.f]; rw [if_pos h]) (Ev.now _)⟩
 ·obtain ⟨t, ht⟩ := markText_l0 i.toNat i ⟨#[]⟩ (by omega) (by omega) hi (by show ((0 : Nat) : Int) + i ≤ _; omega)
  exact ⟨t, Ev.congr (fun k => by simp only [laws_markText.f]; rw [if_neg h]) ht⟩
open Classical in
/-- What markText writes of a number. -/
noncomputable def mT (i : Int) : ByteArray := if h : ∃ t, Ev (fun k => laws_markText.f k i) t then h.choose else ⟨#[]⟩
theorem mT_ev (i : Int) (hi : i ≤ 1152921504606846976) : Ev (fun k => laws_markText.f k i) (mT i) := by
 have h := markText_ex i hi
 unfold mT
 rw [dif_pos h]
 exact h.choose_spec
theorem marks_from {α : Type} {n : Nat} {c : Int} (hc : 0 ≤ c) {G : Nat → List α → Int → Int → Option (Int × List α)}
  (hs : ∀ (x : List α) (a : Int) (i : Nat), x.length = n → i < n → 0 ≤ a → a ≤ 1099511627776 → ∃ y, y.length = n ∧ ∀ q, Ev (fun k => G k y (a + c) ((i : Int) + 1)) q → Ev (fun k => G k x a (i : Int)) q)
  (he : ∀ k x a, x.length = n → G (k + 1) x a (n : Int) = some (a, x)) (d : Nat) :
  ∀ (i : Nat) (x : List α) (a : Int), x.length = n → i ≤ n → n - i = d → 0 ≤ a → a + c * (d : Int) ≤ 1099511627776 → ∃ y, y.length = n ∧ Ev (fun k => G k x a (i : Int)) (a + c * (d : Int), y) := by
 induction d with
 | zero =>
  intro i x a hx hi hd h0 h1
  have e : i = n := by omega
  subst e
  exact ⟨x, hx, Ev.step (f := fun _ => some (a + c * ((0 : Nat) : Int), x)) (fun k => by rw [he k x a hx]; simp) (Ev.now _)⟩
 | succ d ih =>
  intro i x a hx hi hd h0 h1
  have e1 : c * ((d + 1 : Nat) : Int) = c * (d : Int) + c := by rw [Int.natCast_add, Int.mul_add]; simp
  have h2 : 0 ≤ c * (d : Int) := Int.mul_nonneg hc (by omega)
  obtain ⟨y, hy, hq⟩ := hs x a i hx (by omega) h0 (by omega)
  obtain ⟨z, hz, hr⟩ := ih (i + 1) y (a + c) hy (by omega) (by omega) (by omega) (by omega)
  refine ⟨z, hz, hq _ ?_⟩
  have e2 : a + c + c * (d : Int) = a + c * ((d + 1 : Nat) : Int) := by omega
  rw [← e2]
  simpa using hr
theorem rdset_Decl (x : List S69) (i : Nat) (h : i < x.length) (v : S69) : rd_T69 (x.set i v) (i : Int) = v := by simp [rd_T69, List.getD_eq_getElem?_getD, h]
theorem mkDecl_step (x : List S69) (a : Int) (i : Nat) (h : i < x.length) (hx : x.length ≤ 4194304) (h0 : 0 ≤ a) (h1 : a ≤ 1099511627776) (k : Nat) : laws_markDeclS.l0 (k + 1) x a (i : Int) = (laws_markText.f k (a)).bind fun t0 => (laws_markText.f k (a + 1)).bind fun t1 => laws_markDeclS.l0 k (x.set i ⟨t0, t1⟩) (a + 1 + 1) ((i : Int) + 1) := by
 have w1 : wrap64 (a + 1) = a + 1 := w64 (by omega) (by omega)
 have w2 : wrap64 (a + 1 + 1) = a + 1 + 1 := w64 (by omega) (by omega)
 have wi : wrap64 ((i : Int) + 1) = (i : Int) + 1 := w64 (by omega) (by omega)
 have hi0 : (0 : Int) ≤ (i : Int) := by omega
 simp only [laws_markDeclS.l0]
 rw [if_pos (by omega)]
 simp only [Option.bind_some, w1, w2, wi, if_pos hi0, Int.toNat_natCast, List.set_set, rdset_Decl x i h]
/-- The list behind marks from a on. -/
noncomputable def mDecl (a : Int) (n : Nat) : List S69 := (List.range n).map fun (i : Nat) => ⟨mT (a + 2 * (i : Int)), mT (a + 2 * (i : Int) + 1)⟩
theorem mDecl_get (a : Int) (n i : Nat) (h : i < n) : (mDecl a n)[i]? = some ⟨mT (a + 2 * (i : Int)), mT (a + 2 * (i : Int) + 1)⟩ := by simp [mDecl, h]
theorem mDecl_length (a : Int) (n : Nat) : (mDecl a n).length = n := by simp [mDecl]
theorem rdopt_Decl (l : List S69) (i : Nat) (x : S69) (h : l[i]? = some x) : rd_T69 l (i : Int) = x := by simp [rd_T69, List.getD_eq_getElem?_getD, h]
theorem markDecl_l0 (a : Int) (n : Nat) (hn : n ≤ 4194304) (ha : 0 ≤ a ∧ a ≤ 549755813888) (d : Nat) : ∀ (i : Nat) (x : List S69), x.length = n → i ≤ n → n - i = d → (∀ j, j < i → x[j]? = (mDecl a n)[j]?) →
  Ev (fun k => laws_markDeclS.l0 k x (a + 2 * (i : Int)) (i : Int)) (a + 2 * (n : Int), mDecl a n) := by
 induction d with
 | zero =>
  intro i x hx hi hd hj
  have e : i = n := by omega
  subst e
  have ex : x = mDecl a i := List.ext_getElem? (fun j => by
   by_cases hlt : j < i
   ·exact hj j hlt
   ·rw [List.getElem?_eq_none (by omega), List.getElem?_eq_none (by rw [mDecl_length]; omega)])
  refine Ev.step (f := fun _ => some (a + 2 * (i : Int), x)) (fun k => ?_) (by rw [ex]; exact Ev.now _)
  simp only [laws_markDeclS.l0]
  rw [if_neg (by omega)]
 | succ d ih =>
  intro i x hx hi hd hj
  have hlt : i < n := by omega
  refine Ev.step (mkDecl_step x (a + 2 * (i : Int)) i (by omega) (by omega) (by omega) (by omega)) (Ev.bind (mT_ev _ (by omega)) (Ev.bind (mT_ev _ (by omega)) ?_))
  have e1 : a + 2 * (i : Int) + 1 + 1 = a + 2 * ((i + 1 : Nat) : Int) := by omega
  have e2 : (i : Int) + 1 = ((i + 1 : Nat) : Int) := by omega
  rw [e1, e2]
  refine ih (i + 1) _ (by rw [List.length_set]; exact hx) (by omega) (by omega) (fun j hj2 => ?_)
  by_cases e : j = i
  ·subst e
   rw [List.getElem?_set_self (by omega), mDecl_get a n j hlt]
  ·rw [List.getElem?_set_ne (by omega)]
   exact hj j (by omega)
theorem markDecl_f (a : Int) (x : List S69) (hn : x.length ≤ 4194304) (ha : 0 ≤ a ∧ a ≤ 549755813888) : Ev (fun k => laws_markDeclS.f k x a) (a + 2 * (x.length : Int), mDecl a x.length) := by
 have h := markDecl_l0 a x.length hn ha x.length 0 x rfl (by omega) (by omega) (fun j hj => by omega)
 refine Ev.congr (fun k => ?_) h
 simp [laws_markDeclS.f]
theorem rdset_Attr (x : List S71) (i : Nat) (h : i < x.length) (v : S71) : rd_T71 (x.set i v) (i : Int) = v := by simp [rd_T71, List.getD_eq_getElem?_getD, h]
theorem mkAttr_step (x : List S71) (a : Int) (i : Nat) (h : i < x.length) (hx : x.length ≤ 4194304) (h0 : 0 ≤ a) (h1 : a ≤ 1099511627776) (k : Nat) : laws_markAttrS.l0 (k + 1) x a (i : Int) = (laws_markText.f k (a)).bind fun t0 => (laws_markText.f k (a + 1)).bind fun t1 => (laws_markText.f k (a + 1 + 1)).bind fun t2 => (laws_markText.f k (a + 1 + 1 + 1)).bind fun t3 => laws_markAttrS.l0 k (x.set i ⟨t0, t1, t2, t3⟩) (a + 1 + 1 + 1 + 1) ((i : Int) + 1) := by
 have w1 : wrap64 (a + 1) = a + 1 := w64 (by omega) (by omega)
 have w2 : wrap64 (a + 1 + 1) = a + 1 + 1 := w64 (by omega) (by omega)
 have w3 : wrap64 (a + 1 + 1 + 1) = a + 1 + 1 + 1 := w64 (by omega) (by omega)
 have w4 : wrap64 (a + 1 + 1 + 1 + 1) = a + 1 + 1 + 1 + 1 := w64 (by omega) (by omega)
 have wi : wrap64 ((i : Int) + 1) = (i : Int) + 1 := w64 (by omega) (by omega)
 have hi0 : (0 : Int) ≤ (i : Int) := by omega
 simp only [laws_markAttrS.l0]
 rw [if_pos (by omega)]
 simp only [Option.bind_some, w1, w2, w3, w4, wi, if_pos hi0, Int.toNat_natCast, List.set_set, rdset_Attr x i h]
/-- The list behind marks from a on. -/
noncomputable def mAttr (a : Int) (n : Nat) : List S71 := (List.range n).map fun (i : Nat) => ⟨mT (a + 4 * (i : Int)), mT (a + 4 * (i : Int) + 1), mT (a + 4 * (i : Int) + 1 + 1), mT (a + 4 * (i : Int) + 1 + 1 + 1)⟩
theorem mAttr_get (a : Int) (n i : Nat) (h : i < n) : (mAttr a n)[i]? = some ⟨mT (a + 4 * (i : Int)), mT (a + 4 * (i : Int) + 1), mT (a + 4 * (i : Int) + 1 + 1), mT (a + 4 * (i : Int) + 1 + 1 + 1)⟩ := by simp [mAttr, h]
theorem mAttr_length (a : Int) (n : Nat) : (mAttr a n).length = n := by simp [mAttr]
theorem rdopt_Attr (l : List S71) (i : Nat) (x : S71) (h : l[i]? = some x) : rd_T71 l (i : Int) = x := by simp [rd_T71, List.getD_eq_getElem?_getD, h]
theorem markAttr_l0 (a : Int) (n : Nat) (hn : n ≤ 4194304) (ha : 0 ≤ a ∧ a ≤ 549755813888) (d : Nat) : ∀ (i : Nat) (x : List S71), x.length = n → i ≤ n → n - i = d → (∀ j, j < i → x[j]? = (mAttr a n)[j]?) →
  Ev (fun k => laws_markAttrS.l0 k x (a + 4 * (i : Int)) (i : Int)) (a + 4 * (n : Int), mAttr a n) := by
 induction d with
 | zero =>
  intro i x hx hi hd hj
  have e : i = n := by omega
  subst e
  have ex : x = mAttr a i := List.ext_getElem? (fun j => by
   by_cases hlt : j < i
   ·exact hj j hlt
   ·rw [List.getElem?_eq_none (by omega), List.getElem?_eq_none (by rw [mAttr_length]; omega)])
  refine Ev.step (f := fun _ => some (a + 4 * (i : Int), x)) (fun k => ?_) (by rw [ex]; exact Ev.now _)
  simp only [laws_markAttrS.l0]
  rw [if_neg (by omega)]
 | succ d ih =>
  intro i x hx hi hd hj
  have hlt : i < n := by omega
  refine Ev.step (mkAttr_step x (a + 4 * (i : Int)) i (by omega) (by omega) (by omega) (by omega)) (Ev.bind (mT_ev _ (by omega)) (Ev.bind (mT_ev _ (by omega)) (Ev.bind (mT_ev _ (by omega)) (Ev.bind (mT_ev _ (by omega)) ?_))))
  have e1 : a + 4 * (i : Int) + 1 + 1 + 1 + 1 = a + 4 * ((i + 1 : Nat) : Int) := by omega
  have e2 : (i : Int) + 1 = ((i + 1 : Nat) : Int) := by omega
  rw [e1, e2]
  refine ih (i + 1) _ (by rw [List.length_set]; exact hx) (by omega) (by omega) (fun j hj2 => ?_)
  by_cases e : j = i
  ·subst e
   rw [List.getElem?_set_self (by omega), mAttr_get a n j hlt]
  ·rw [List.getElem?_set_ne (by omega)]
   exact hj j (by omega)
theorem markAttr_f (a : Int) (x : List S71) (hn : x.length ≤ 4194304) (ha : 0 ≤ a ∧ a ≤ 549755813888) : Ev (fun k => laws_markAttrS.f k x a) (a + 4 * (x.length : Int), mAttr a x.length) := by
 have h := markAttr_l0 a x.length hn ha x.length 0 x rfl (by omega) (by omega) (fun j hj => by omega)
 refine Ev.congr (fun k => ?_) h
 simp [laws_markAttrS.f]
theorem heldDecl_l0 (a : Int) (n : Nat) (hn : n ≤ 4194304) (ha : 0 ≤ a ∧ a ≤ 549755813888) (d : Nat) : ∀ i : Nat, i ≤ n → n - i = d → Ev (fun k => laws_heldDeclS.l0 k (mDecl a n) (a + 2 * (i : Int)) (i : Int)) (a + 2 * (n : Int)) := by
 have hlen := mDecl_length a n
 induction d with
 | zero =>
  intro i hi hd
  have e : i = n := by omega
  subst e
  refine Ev.step (fun k => ?_) (Ev.now _)
  simp only [laws_heldDeclS.l0]
  rw [if_neg (by omega)]
 | succ d ih =>
  intro i hi hd
  have hlt : i < n := by omega
  have c0 : (0 : Int) ≤ (i : Int) := by omega
  have c1 : (i : Int) < ((mDecl a n).length : Int) := by omega
  have i1 : i + 1 ≤ n := by omega
  have i2 : n - (i + 1) = d := by omega
  have q0 : a + 2 * (i : Int) ≤ 1152921504606846976 := by omega
  have q1 : a + 2 * (i : Int) + 1 ≤ 1152921504606846976 := by omega
  have w1 : wrap64 (a + 2 * (i : Int) + 1) = a + 2 * (i : Int) + 1 := w64 (by omega) (by omega)
  have w2 : wrap64 (a + 2 * (i : Int) + 1 + 1) = a + 2 * (i : Int) + 1 + 1 := w64 (by omega) (by omega)
  have wi : wrap64 ((i : Int) + 1) = ((i + 1 : Nat) : Int) := by rw [w64 (by omega) (by omega)]; omega
  have e1 : a + 2 * (i : Int) + 1 + 1 = a + 2 * ((i + 1 : Nat) : Int) := by omega
  have hrd := rdopt_Decl (mDecl a n) i _ (mDecl_get a n i hlt)
  refine Ev.step (fun k => by simp only [laws_heldDeclS.l0]; rw [if_pos c1, if_pos c0, w1, w2, wi, hrd]) (Ev.bind (mT_ev (a + 2 * (i : Int)) q0) ?_)
  refine Ev.congr (fun k => by rw [if_pos rfl]) (Ev.bind (mT_ev (a + 2 * (i : Int) + 1) q1) ?_)
  exact Ev.congr (fun k => by rw [if_pos rfl, e1]) (ih (i + 1) i1 i2)
theorem heldDecl_f (a : Int) (n : Nat) (hn : n ≤ 4194304) (ha : 0 ≤ a ∧ a ≤ 549755813888) : Ev (fun k => laws_heldDeclS.f k (mDecl a n) a) (a + 2 * (n : Int)) := by
 refine Ev.congr (fun k => ?_) (heldDecl_l0 a n hn ha n 0 (by omega) (by omega))
 simp [laws_heldDeclS.f]
theorem heldAttr_l0 (a : Int) (n : Nat) (hn : n ≤ 4194304) (ha : 0 ≤ a ∧ a ≤ 549755813888) (d : Nat) : ∀ i : Nat, i ≤ n → n - i = d → Ev (fun k => laws_heldAttrS.l0 k (mAttr a n) (a + 4 * (i : Int)) (i : Int)) (a + 4 * (n : Int)) := by
 have hlen := mAttr_length a n
 induction d with
 | zero =>
  intro i hi hd
  have e : i = n := by omega
  subst e
  refine Ev.step (fun k => ?_) (Ev.now _)
  simp only [laws_heldAttrS.l0]
  rw [if_neg (by omega)]
 | succ d ih =>
  intro i hi hd
  have hlt : i < n := by omega
  have c0 : (0 : Int) ≤ (i : Int) := by omega
  have c1 : (i : Int) < ((mAttr a n).length : Int) := by omega
  have i1 : i + 1 ≤ n := by omega
  have i2 : n - (i + 1) = d := by omega
  have q0 : a + 4 * (i : Int) ≤ 1152921504606846976 := by omega
  have q1 : a + 4 * (i : Int) + 1 ≤ 1152921504606846976 := by omega
  have q2 : a + 4 * (i : Int) + 1 + 1 ≤ 1152921504606846976 := by omega
  have q3 : a + 4 * (i : Int) + 1 + 1 + 1 ≤ 1152921504606846976 := by omega
  have w1 : wrap64 (a + 4 * (i : Int) + 1) = a + 4 * (i : Int) + 1 := w64 (by omega) (by omega)
  have w2 : wrap64 (a + 4 * (i : Int) + 1 + 1) = a + 4 * (i : Int) + 1 + 1 := w64 (by omega) (by omega)
  have w3 : wrap64 (a + 4 * (i : Int) + 1 + 1 + 1) = a + 4 * (i : Int) + 1 + 1 + 1 := w64 (by omega) (by omega)
  have w4 : wrap64 (a + 4 * (i : Int) + 1 + 1 + 1 + 1) = a + 4 * (i : Int) + 1 + 1 + 1 + 1 := w64 (by omega) (by omega)
  have wi : wrap64 ((i : Int) + 1) = ((i + 1 : Nat) : Int) := by rw [w64 (by omega) (by omega)]; omega
  have e1 : a + 4 * (i : Int) + 1 + 1 + 1 + 1 = a + 4 * ((i + 1 : Nat) : Int) := by omega
  have hrd := rdopt_Attr (mAttr a n) i _ (mAttr_get a n i hlt)
  refine Ev.step (fun k => by simp only [laws_heldAttrS.l0]; rw [if_pos c1, if_pos c0, w1, w2, w3, w4, wi, hrd]) (Ev.bind (mT_ev (a + 4 * (i : Int)) q0) ?_)
  refine Ev.congr (fun k => by rw [if_pos rfl]) (Ev.bind (mT_ev (a + 4 * (i : Int) + 1) q1) ?_)
  refine Ev.congr (fun k => by rw [if_pos rfl]) (Ev.bind (mT_ev (a + 4 * (i : Int) + 1 + 1) q2) ?_)
  refine Ev.congr (fun k => by rw [if_pos rfl]) (Ev.bind (mT_ev (a + 4 * (i : Int) + 1 + 1 + 1) q3) ?_)
  exact Ev.congr (fun k => by rw [if_pos rfl, e1]) (ih (i + 1) i1 i2)
theorem heldAttr_f (a : Int) (n : Nat) (hn : n ≤ 4194304) (ha : 0 ≤ a ∧ a ≤ 549755813888) : Ev (fun k => laws_heldAttrS.f k (mAttr a n) a) (a + 4 * (n : Int)) := by
 refine Ev.congr (fun k => ?_) (heldAttr_l0 a n hn ha n 0 (by omega) (by omega))
 simp [laws_heldAttrS.f]
theorem markHeld_go (l : List S34) (hl : ∀ y ∈ l, ∀ a, 0 ≤ a → a + 8 * (1 + vNode y) ≤ 549755813888 → ∃ r z, Ev (fun k => laws_markNodeS.node (laws_markNodeS.f k) k y a) (r, z) ∧ a ≤ r ∧ r ≤ a + 8 * (1 + vNode y) ∧
   ∀ (xs : List S34) (i : Nat), xs.length ≤ 4194304 → xs[i]? = some z → ∀ q, Ev (fun k => laws_heldNodeS.l0 k xs r ((i + 1 : Nat) : Int)) q → Ev (fun k => laws_heldNodeS.l0 k xs a (i : Int)) q) : ∀ a, 0 ≤ a → a + 8 * ((l.length : Int) + sumOf vNode l) ≤ 549755813888 →
  ∃ r z, Ev (fun k => laws_markNodeS.go (laws_markNodeS.f k) k l a) (r, z) ∧ a ≤ r ∧ r ≤ a + 8 * ((l.length : Int) + sumOf vNode l) ∧ z.length = l.length ∧
   ∀ pre : List S34, pre.length + l.length ≤ 4194304 → Ev (fun k => laws_heldNodeS.l0 k (pre ++ z) a (pre.length : Int)) r := by
 induction l with
 | nil =>
  intro a h0 h1
  refine ⟨a, [], Ev.congr (fun k => by simp only [laws_markNodeS.go]) (Ev.now _), Int.le_refl _, by simp [sumOf_nil], rfl, fun pre hp => Ev.step (fun k => ?_) (Ev.now a)⟩
  simp only [laws_heldNodeS.l0, List.append_nil]
  rw [if_neg (by omega)]
 | cons x l ih =>
  intro a h0 h1
  rw [sumOf_cons, List.length_cons] at h1 ⊢
  have hv := vNode_n x
  have hs := sumOf_nonneg vNode_n l
  obtain ⟨r, z, hr, b1, b2, hz⟩ := hl x (List.mem_cons_self ..) a h0 (by omega)
  obtain ⟨q, y, hq, b3, b4, hy, hh⟩ := ih (fun y hy => hl y (List.mem_cons_of_mem _ hy)) r (by omega) (by omega)
  refine ⟨q, z :: y, Ev.congr (fun k => by simp only [laws_markNodeS.go]; rfl) (Ev.bind hr ?_), by omega, by omega, by rw [List.length_cons, hy], fun pre hp => ?_⟩
  ·refine Ev.bind hq ?_
   exact Ev.now _
  ·refine hz (pre ++ z :: y) pre.length (by rw [List.length_append, List.length_cons, hy]; omega) (by simp) q ?_
   have h2 := hh (pre ++ [z]) (by rw [List.length_append, List.length_singleton]; omega)
   rw [List.append_assoc, List.singleton_append, List.length_append, List.length_singleton] at h2
   exact h2
theorem markHeldS_of (l : List S34) (h62 : l.length ≤ 1048576) (hl : ∀ y ∈ l, ∀ a, 0 ≤ a → a + 8 * (1 + vNode y) ≤ 549755813888 → ∃ r z, Ev (fun k => laws_markNodeS.node (laws_markNodeS.f k) k y a) (r, z) ∧ a ≤ r ∧ r ≤ a + 8 * (1 + vNode y) ∧
   ∀ (xs : List S34) (i : Nat), xs.length ≤ 4194304 → xs[i]? = some z → ∀ q, Ev (fun k => laws_heldNodeS.l0 k xs r ((i + 1 : Nat) : Int)) q → Ev (fun k => laws_heldNodeS.l0 k xs a (i : Int)) q) (a : Int) (h0 : 0 ≤ a) (h1 : a + 8 * ((l.length : Int) + sumOf vNode l) ≤ 549755813888) :
  ∃ r z, Ev (fun k => laws_markNodeS.f k l a) (r, z) ∧ a ≤ r ∧ r ≤ a + 8 * ((l.length : Int) + sumOf vNode l) ∧ Ev (fun k => laws_heldNodeS.f k z a) r := by
 obtain ⟨r, z, hr, b1, b2, hz, hh⟩ := markHeld_go l hl a h0 h1
 refine ⟨r, z, Ev.step (fun k => by simp only [laws_markNodeS.f]; rw [if_pos (by omega)]) hr, b1, b2, Ev.step (fun k => by simp only [laws_heldNodeS.f]; rfl) ?_⟩
 exact hh [] (by rw [List.length_nil]; omega)
theorem markHeld_node (x : S34) : vNode x ≤ 1048576 → ∀ a, 0 ≤ a → a + 8 * (1 + vNode x) ≤ 549755813888 → ∃ r z, Ev (fun k => laws_markNodeS.node (laws_markNodeS.f k) k x a) (r, z) ∧ a ≤ r ∧ r ≤ a + 8 * (1 + vNode x) ∧
   ∀ (xs : List S34) (i : Nat), xs.length ≤ 4194304 → xs[i]? = some z → ∀ q, Ev (fun k => laws_heldNodeS.l0 k xs r ((i + 1 : Nat) : Int)) q → Ev (fun k => laws_heldNodeS.l0 k xs a (i : Int)) q := by
 induction x using indI with
 | h x ih =>
  intro hv a h0 h1
  obtain ⟨b4, b5, b6, bs, bk⟩ := vNode_bounds x
  have e := vNode_eq x
  have hs := sumOf_nonneg vNode_n x.f6
  have hd := markDecl_f (a + 1 + 1 + 1 + 1) x.f4 (by omega) (by omega)
  have ht := markAttr_f (a + 1 + 1 + 1 + 1 + 2 * (x.f4.length : Int)) x.f5 (by omega) (by omega)
  have gd := heldDecl_f (a + 1 + 1 + 1 + 1) x.f4.length (by omega) (by omega)
  have gt := heldAttr_f (a + 1 + 1 + 1 + 1 + 2 * (x.f4.length : Int)) x.f5.length (by omega) (by omega)
  obtain ⟨r, z, hr, c1, c2, hh⟩ := markHeldS_of x.f6 (by omega) (fun y hy => ih y hy (by have := bk y hy; omega)) (a + 1 + 1 + 1 + 1 + 2 * (x.f4.length : Int) + 4 * (x.f5.length : Int)) (by omega) (by omega)
  have m1 := mT_ev (a + 1) (by omega)
  have m2 := mT_ev (a + 1 + 1) (by omega)
  have m3 := mT_ev (a + 1 + 1 + 1) (by omega)
  have m7 := mT_ev r (by omega)
  have n1 : ¬ a + 1 + 1 + 1 + 1 + 2 * (x.f4.length : Int) < 0 := by omega
  have n2 : ¬ a + 1 + 1 + 1 + 1 + 2 * (x.f4.length : Int) + 4 * (x.f5.length : Int) < 0 := by omega
  have n3 : ¬ r < 0 := by omega
  have r1 : a ≤ r + 1 := by omega
  have r2 : r + 1 ≤ a + 8 * (1 + vNode x) := by omega
  have w1 : wrap64 (a + 1) = a + 1 := w64 (by omega) (by omega)
  have w2 : wrap64 (a + 1 + 1) = a + 1 + 1 := by clear w1; exact w64 (by omega) (by omega)
  have w3 : wrap64 (a + 1 + 1 + 1) = a + 1 + 1 + 1 := by clear w1 w2; exact w64 (by omega) (by omega)
  have w4 : wrap64 (a + 1 + 1 + 1 + 1) = a + 1 + 1 + 1 + 1 := by clear w1 w2 w3; exact w64 (by omega) (by omega)
  have w5 : wrap64 (r + 1) = r + 1 := by clear w1 w2 w3 w4; exact w64 (by omega) (by omega)
  refine ⟨r + 1, ⟨a, mT (a + 1), mT (a + 1 + 1), mT (a + 1 + 1 + 1), mDecl (a + 1 + 1 + 1 + 1) x.f4.length, mAttr (a + 1 + 1 + 1 + 1 + 2 * (x.f4.length : Int)) x.f5.length, z, mT r⟩, ?_, r1, r2, fun xs i hx hz q hq => ?_⟩
  ·refine Ev.congr (fun k => by simp only [laws_markNodeS.node, w1, w2, w3, w4]; rfl) (Ev.bind m1 ?_)
   refine Ev.bind m2 ?_
   refine Ev.bind m3 ?_
   refine Ev.bind hd ?_
   refine Ev.bind ht ?_
   refine Ev.bind hr ?_
   refine Ev.bind m7 ?_
   exact Ev.congr (fun k => by rw [w5]) (Ev.now _)
  ·have hi : i < xs.length := by
    rcases Nat.lt_or_ge i xs.length with h | h
    ·exact h
    ·rw [List.getElem?_eq_none h] at hz; cases hz
   have hrd : rd_T34 xs (i : Int) = ⟨a, mT (a + 1), mT (a + 1 + 1), mT (a + 1 + 1 + 1), mDecl (a + 1 + 1 + 1 + 1) x.f4.length, mAttr (a + 1 + 1 + 1 + 1 + 2 * (x.f4.length : Int)) x.f5.length, z, mT r⟩ := by simp [rd_T34, List.getD_eq_getElem?_getD, hz]
   have i0 : (0 : Int) ≤ (i : Int) := by clear w1 w2 w3 w4 w5; omega
   have i1 : (i : Int) < (xs.length : Int) := by clear w1 w2 w3 w4 w5; omega
   have wi : wrap64 ((i : Int) + 1) = ((i + 1 : Nat) : Int) := by clear w1 w2 w3 w4 w5; rw [w64 (by omega) (by omega)]; omega
   refine Ev.step (fun k => by simp only [laws_heldNodeS.l0]; rw [if_pos i1, if_pos i0, hrd, if_pos rfl, w1]) (Ev.bind m1 ?_)
   refine Ev.congr (fun k => by rw [if_pos rfl, w2]) (Ev.bind m2 ?_)
   refine Ev.congr (fun k => by rw [if_pos rfl, w3]) (Ev.bind m3 ?_)
   refine Ev.congr (fun k => by rw [if_pos rfl, w4]) (Ev.bind gd ?_)
   refine Ev.congr (fun k => by rw [if_neg n1]) (Ev.bind gt ?_)
   refine Ev.congr (fun k => by rw [if_neg n2]) (Ev.bind hh ?_)
   refine Ev.congr (fun k => by rw [if_neg n3]) (Ev.bind m7 ?_)
   exact Ev.congr (fun k => by rw [if_pos rfl, w5, wi]) hq
theorem markHeldS_ev (l : List S34) (hl : (l.length : Int) + sumOf vNode l ≤ 1048576) (a : Int) (h0 : 0 ≤ a) (h1 : a ≤ 274877906944) :
  ∃ r z, Ev (fun k => laws_markNodeS.f k l a) (r, z) ∧ a ≤ r ∧ r ≤ a + 8 * ((l.length : Int) + sumOf vNode l) ∧ Ev (fun k => laws_heldNodeS.f k z a) r := by
 have hs := sumOf_nonneg vNode_n l
 exact markHeldS_of l (by omega) (fun y hy => markHeld_node y (by have := sumOf_mem vNode_n hy; omega)) a h0 (by omega)
theorem nodeEta (y : S34) : (⟨y.f0, y.f1, y.f2, y.f3, y.f4, y.f5, y.f6, y.f7⟩ : S34) = y := by cases y; rfl
theorem app_from {α : Type} {l : List α} {G : Nat → List α → Int → Option (List α)} {H : Nat → Nat → Option α}
  (hs : ∀ k acc (i : Nat), acc.length = i → i < l.length → G (k + 1) acc (i : Int) = (H k i).bind fun t => G k (acc ++ [t]) ((i + 1 : Nat) : Int))
  (hH : ∀ (i : Nat) (h : i < l.length), Ev (fun k => H k i) l[i]) (he : ∀ k acc, acc.length = l.length → G (k + 1) acc (l.length : Int) = some acc) (d : Nat) :
  ∀ (i : Nat) (acc : List α), i ≤ l.length → l.length - i = d → acc = l.take i → Ev (fun k => G k acc (i : Int)) l := by
 induction d with
 | zero =>
  intro i acc hi hd ha
  have e : i = l.length := by omega
  subst e
  rw [List.take_length] at ha
  subst ha
  exact Ev.step (f := fun _ => some acc) (fun k => he k acc rfl) (Ev.now _)
 | succ d ih =>
  intro i acc hi hd ha
  have hlt : i < l.length := by omega
  refine Ev.step (fun k => hs k acc i (by rw [ha, List.length_take]; omega) hlt) (Ev.bind (hH i hlt) ?_)
  exact ih (i + 1) _ (by omega) (by omega) (by rw [ha, List.take_succ_eq_append_getElem hlt])
theorem l5Copy_f (x : S34) : vNode x ≤ 1048576 → Ev (fun k => spec_l5Copy.f k x.f0 x.f1 x.f2 x.f3 x.f4 x.f5 x.f6 x.f7) (x.f0, x.f1, x.f2, x.f3, x.f4, x.f5, x.f6, x.f7) := by
 induction x using indI with
 | h x ih =>
  intro hv
  obtain ⟨b4, b5, b6, bs, bk⟩ := vNode_bounds x
  have hk : Ev (fun k => spec_l5All.f k x.f6) x.f6 := by
   have h := app_from (l := x.f6) (G := fun k acc i => spec_l5All.l0 k x.f6 acc i) (H := fun k i => (spec_l5Copy.f k (rd_T34 x.f6 (i : Int)).f0 (rd_T34 x.f6 (i : Int)).f1 (rd_T34 x.f6 (i : Int)).f2 (rd_T34 x.f6 (i : Int)).f3 (rd_T34 x.f6 (i : Int)).f4 (rd_T34 x.f6 (i : Int)).f5 (rd_T34 x.f6 (i : Int)).f6 (rd_T34 x.f6 (i : Int)).f7).bind fun q => some (⟨q.1, q.2.1, q.2.2.1, q.2.2.2.1, q.2.2.2.2.1, q.2.2.2.2.2.1, q.2.2.2.2.2.2.1, q.2.2.2.2.2.2.2⟩ : S34))
    (fun k acc i ha hi => by
     have c1 : (i : Int) < (x.f6.length : Int) := by omega
     have c0 : (0 : Int) ≤ (i : Int) := by omega
     have c2 : acc.length < 977343669134 := by omega
     have wi : wrap64 ((i : Int) + 1) = ((i + 1 : Nat) : Int) := by rw [w64 (by omega) (by omega)]; omega
     simp only [spec_l5All.l0]
     rw [if_pos c1, if_pos c0, wi, Option.bind_assoc]
     simp only [c2, if_true, Option.bind_some]
     rfl)
    (fun i hi => by
     rw [rd_INode _ i hi]
     refine Ev.bind (ih _ (List.getElem_mem hi) (by have := bk _ (List.getElem_mem hi); omega)) ?_
     exact Ev.congr (f := fun _ => some x.f6[i]) (fun k => congrArg some (nodeEta _)) (Ev.now _))
    (fun k acc ha => by simp only [spec_l5All.l0]; rw [if_neg (by omega)]) x.f6.length 0 [] (by omega) (by omega) rfl
   exact Ev.step (fun k => by simp only [spec_l5All.f]; rfl) h
  have c4 : ([] : List S69).length + x.f4.length < 4398046511104 := by simp; omega
  have c5 : ([] : List S71).length + x.f5.length < 2199023255552 := by simp; omega
  refine Ev.congr (fun k => by simp only [spec_l5Copy.f, spec_l5Copy.F, Option.bind_some]; rw [if_pos c4, if_pos c5]) (Ev.bind hk ?_)
  exact Ev.now _
theorem cloneNode_f (x : S34) : vNode x ≤ 1048576 → Ev (fun k => impl_cloneNode.f k x.f0 x.f1 x.f2 x.f3 x.f4 x.f5 x.f6 x.f7) (x.f0, x.f1, x.f2, x.f3, x.f4, x.f5, x.f6, x.f7) := by
 induction x using indI with
 | h x ih =>
  intro hv
  obtain ⟨b4, b5, b6, bs, bk⟩ := vNode_bounds x
  have hk : Ev (fun k => impl_cloneNodes.f k x.f6) x.f6 := by
   have h := app_from (l := x.f6) (G := fun k acc i => impl_cloneNodes.l0 k acc x.f6 (x.f6.length : Int) i) (H := fun k i => (impl_cloneNode.f k (rd_T34 x.f6 (i : Int)).f0 (rd_T34 x.f6 (i : Int)).f1 (rd_T34 x.f6 (i : Int)).f2 (rd_T34 x.f6 (i : Int)).f3 (rd_T34 x.f6 (i : Int)).f4 (rd_T34 x.f6 (i : Int)).f5 (rd_T34 x.f6 (i : Int)).f6 (rd_T34 x.f6 (i : Int)).f7).bind fun q => some (⟨q.1, q.2.1, q.2.2.1, q.2.2.2.1, q.2.2.2.2.1, q.2.2.2.2.2.1, q.2.2.2.2.2.2.1, q.2.2.2.2.2.2.2⟩ : S34))
    (fun k acc i ha hi => by
     have c1 : (i : Int) < (x.f6.length : Int) := by omega
     have c0 : (0 : Int) ≤ (i : Int) := by omega
     have c2 : acc.length < 977343669134 := by omega
     have wi : wrap64 ((i : Int) + 1) = ((i + 1 : Nat) : Int) := by rw [w64 (by omega) (by omega)]; omega
     simp only [impl_cloneNodes.l0]
     rw [if_pos c1, if_pos c0, if_pos c1, wi, Option.bind_assoc]
     simp only [c2, if_true, Option.bind_some]
     rfl)
    (fun i hi => by
     rw [rd_INode _ i hi]
     refine Ev.bind (ih _ (List.getElem_mem hi) (by have := bk _ (List.getElem_mem hi); omega)) ?_
     exact Ev.congr (f := fun _ => some x.f6[i]) (fun k => congrArg some (nodeEta _)) (Ev.now _))
    (fun k acc ha => by simp only [impl_cloneNodes.l0]; rw [if_neg (by omega)]) x.f6.length 0 [] (by omega) (by omega) rfl
   exact Ev.step (fun k => by simp only [impl_cloneNodes.f]; rfl) h
  have c4 : x.f4.length < 4398046511104 := by omega
  have c5 : x.f5.length < 2199023255552 := by omega
  refine Ev.congr (fun k => by simp only [impl_cloneNode.f, impl_cloneNode.F, impl_Decl.f, impl_Attr.f]; rw [if_pos c4, if_pos c5]; simp only [Option.bind_some]; rfl) (Ev.bind hk ?_)
  exact Ev.now _
theorem sumOf_append {α : Type} (w : α → Int) (l m : List α) : sumOf w (l ++ m) = sumOf w l + sumOf w m := by
 induction l with
 | nil => simp [sumOf_nil]
 | cons x l ih => rw [List.cons_append, sumOf_cons, sumOf_cons, ih]; omega
theorem sumOf_set {α : Type} (w : α → Int) (l : List α) : ∀ (i : Nat) (h : i < l.length) (y : α), w y = w l[i] → sumOf w (l.set i y) = sumOf w l := by
 induction l with
 | nil => intro i h; simp at h
 | cons x l ih =>
  intro i h y hy
  cases i with
  | zero => rw [List.set_cons_zero, sumOf_cons, sumOf_cons]; rw [hy]; rfl
  | succ i => rw [List.set_cons_succ, sumOf_cons, sumOf_cons, ih i (by simpa using h) y (by simpa using hy)]
def tS (x : S34) : Int := (x.f7.size : Int)
theorem tS_nonneg (x : S34) : 0 ≤ tS x := by unfold tS; omega
def glue (a b : S34) : S34 := ⟨a.f0, a.f1, a.f2, a.f3, a.f4, a.f5, a.f6, a.f7 ++ b.f7⟩
/-- One node is put to those that are merged. -/
def mgS (acc : List S34) (x : S34) : List S34 :=
 if x.f0 = 2 then
  if x.f7.toList = ([] : List UInt8) then acc
  else if h : 0 < acc.length then (if (acc[acc.length - 1]'(by omega)).f0 = 2 then acc.set (acc.length - 1) (glue (acc[acc.length - 1]'(by omega)) x) else acc ++ [x])
  else acc ++ [x]
 else acc ++ [x]
theorem mgS_t {acc : List S34} {x : S34} (k2 : ¬ x.f0 = 2) : mgS acc x = acc ++ [x] := by unfold mgS; rw [if_neg k2]
theorem mgS_e {acc : List S34} {x : S34} (k2 : x.f0 = 2) (e7 : x.f7.toList = ([] : List UInt8)) : mgS acc x = acc := by unfold mgS; rw [if_pos k2, if_pos e7]
theorem mgS_0 {acc : List S34} {x : S34} (k2 : x.f0 = 2) (e7 : ¬ x.f7.toList = ([] : List UInt8)) (p : ¬ 0 < acc.length) : mgS acc x = acc ++ [x] := by unfold mgS; rw [if_pos k2, if_neg e7, dif_neg p]
theorem mgS_n {acc : List S34} {x : S34} (k2 : x.f0 = 2) (e7 : ¬ x.f7.toList = ([] : List UInt8)) (p : 0 < acc.length) (k3 : ¬ (acc[acc.length - 1]'(by omega)).f0 = 2) : mgS acc x = acc ++ [x] := by unfold mgS; rw [if_pos k2, if_neg e7, dif_pos p, if_neg k3]
theorem mgS_g {acc : List S34} {x : S34} (k2 : x.f0 = 2) (e7 : ¬ x.f7.toList = ([] : List UInt8)) (p : 0 < acc.length) (k3 : (acc[acc.length - 1]'(by omega)).f0 = 2) : mgS acc x = acc.set (acc.length - 1) (glue (acc[acc.length - 1]'(by omega)) x) := by unfold mgS; rw [if_pos k2, if_neg e7, dif_pos p, if_pos k3]
theorem merge_same (l : List S34) (hl : l.length ≤ 1048576) (hv : ∀ x ∈ l, vNode x ≤ 1048576) (d : Nat) : ∀ (i : Nat) (acc : List S34), i ≤ l.length → l.length - i = d → acc.length ≤ i → (∀ y ∈ acc, tS y + sumOf tS (l.drop i) ≤ 1048576) → sumOf tS (l.drop i) ≤ 1048576 →
  ∃ r, Ev (fun k => spec_Merge.l0 k l acc (i : Int)) r ∧ Ev (fun k => impl_Merge.l0 k acc l (l.length : Int) (i : Int)) r ∧ (r.length : Int) + sumOf vNode r ≤ (acc.length : Int) + sumOf vNode acc + (((l.drop i).length : Int) + sumOf vNode (l.drop i)) ∧ r = (l.drop i).foldl mgS acc := by
 induction d with
 | zero =>
  intro i acc hi hd ha ht ht2
  have e : i = l.length := by omega
  subst e
  have hn := sumOf_nonneg vNode_n (l.drop l.length)
  refine ⟨acc, Ev.step (fun k => ?_) (Ev.now acc), Ev.step (fun k => ?_) (Ev.now acc), by omega, by rw [List.drop_length]; rfl⟩
  ·simp only [spec_Merge.l0]
   rw [if_neg (by omega)]
  ·simp only [impl_Merge.l0]
   rw [if_neg (by omega)]
 | succ d ih =>
  intro i acc hi hd ha ht ht2
  have hlt : i < l.length := by omega
  have hm := List.getElem_mem hlt
  have hvx := hv _ hm
  have hdr := List.drop_eq_getElem_cons hlt
  have hsp := l5Copy_f l[i] hvx
  have him := cloneNode_f l[i] hvx
  have hrd := rd_INode l i hlt
  rw [hdr] at ht ht2 ⊢
  rw [sumOf_cons] at ht2 ⊢
  rw [List.length_cons]
  simp only [sumOf_cons] at ht
  have hn1 := vNode_n l[i]
  have hn2 := tS_nonneg l[i]
  have hn3 := sumOf_nonneg tS_nonneg (l.drop (i + 1))
  have c0 : (0 : Int) ≤ (i : Int) := by omega
  have c1 : (i : Int) < (l.length : Int) := by omega
  have ca : acc.length < 977343669134 := by omega
  have wi : wrap64 ((i : Int) + 1) = ((i + 1 : Nat) : Int) := by rw [w64 (by omega) (by omega)]; omega
  have i1 : i + 1 ≤ l.length := by omega
  have i2 : l.length - (i + 1) = d := by omega
  have ia : acc.length ≤ i + 1 := by omega
  -- one more
  have more : ∃ r, Ev (fun k => spec_Merge.l0 k l (acc ++ [l[i]]) ((i + 1 : Nat) : Int)) r ∧ Ev (fun k => impl_Merge.l0 k (acc ++ [l[i]]) l (l.length : Int) ((i + 1 : Nat) : Int)) r ∧ (r.length : Int) + sumOf vNode r ≤ (acc.length : Int) + sumOf vNode acc + ((((l.drop (i + 1)).length + 1 : Nat) : Int) + (vNode l[i] + sumOf vNode (l.drop (i + 1)))) ∧ r = (l.drop (i + 1)).foldl mgS (acc ++ [l[i]]) := by
   obtain ⟨r, r1, r2, r3, r4⟩ := ih (i + 1) (acc ++ [l[i]]) i1 i2 (by rw [List.length_append, List.length_singleton]; omega) (fun y hy => by
    rcases List.mem_append.1 hy with h | h
    ·have := ht y h; omega
    ·rw [List.mem_singleton.1 h]; omega) (by omega)
   rw [List.length_append, List.length_singleton, sumOf_append, sumOf_cons, sumOf_nil] at r3
   exact ⟨r, r1, r2, by omega, r4⟩
  obtain ⟨ra, ra1, ra2, ra3, ra4⟩ := more
  have sA : Ev (fun k => (spec_l5Copy.f k l[i].f0 l[i].f1 l[i].f2 l[i].f3 l[i].f4 l[i].f5 l[i].f6 l[i].f7).bind fun b => if acc.length < 977343669134 then spec_Merge.l0 k l (acc ++ [(⟨b.1, b.2.1, b.2.2.1, b.2.2.2.1, b.2.2.2.2.1, b.2.2.2.2.2.1, b.2.2.2.2.2.2.1, b.2.2.2.2.2.2.2⟩ : S34)]) ((i + 1 : Nat) : Int) else none) ra := by
   refine Ev.bind hsp ?_
   exact Ev.congr (fun k => by rw [if_pos ca]; exact congrArg (fun z => spec_Merge.l0 k l (acc ++ [z]) ((i + 1 : Nat) : Int)) (nodeEta _)) ra1
  have iA : Ev (fun k => (impl_cloneNode.f k l[i].f0 l[i].f1 l[i].f2 l[i].f3 l[i].f4 l[i].f5 l[i].f6 l[i].f7).bind fun b => if acc.length < 977343669134 then impl_Merge.l0 k (acc ++ [(⟨b.1, b.2.1, b.2.2.1, b.2.2.2.1, b.2.2.2.2.1, b.2.2.2.2.2.1, b.2.2.2.2.2.2.1, b.2.2.2.2.2.2.2⟩ : S34)]) l (l.length : Int) ((i + 1 : Nat) : Int) else none) ra := by
   refine Ev.bind him ?_
   exact Ev.congr (fun k => by rw [if_pos ca]; exact congrArg (fun z => impl_Merge.l0 k (acc ++ [z]) l (l.length : Int) ((i + 1 : Nat) : Int)) (nodeEta _)) ra2
  by_cases k2 : l[i].f0 = 2
  ·by_cases e7 : l[i].f7.toList = ([] : List UInt8)
   ·-- an empty text
    obtain ⟨r, r1, r2, r3, r4⟩ := ih (i + 1) acc i1 i2 ia (fun y hy => by have := ht y hy; omega) (by omega)
    have b7 : (l[i].f7.toList == ([] : List UInt8)) = true := by rw [e7]; rfl
    refine ⟨r, Ev.step (fun k => ?_) r1, Ev.step (f := fun k => impl_Merge.j1 k acc (acc.length : Int) l (l.length : Int) (i : Int) true l[i].f0 l[i].f1 l[i].f2 l[i].f3 l[i].f4 l[i].f5 l[i].f6 l[i].f7) (fun k => ?_) (Ev.step (fun k => ?_) r2), by omega, by rw [List.foldl_cons, mgS_e k2 e7]; exact r4⟩
    ·simp only [spec_Merge.l0]
     rw [if_pos c1, if_pos c0, hrd, if_pos k2, if_pos e7, wi]
    ·simp only [impl_Merge.l0]
     rw [if_pos c1, if_pos c0, if_pos c1, hrd, if_pos k2, b7]
    ·simp only [impl_Merge.j1]
     rw [if_pos trivial, wi]
   ·have b7 : (l[i].f7.toList == ([] : List UInt8)) = false := by simpa using e7
    have imp : ∀ r, Ev (fun k => impl_Merge.j1 k acc (acc.length : Int) l (l.length : Int) (i : Int) false l[i].f0 l[i].f1 l[i].f2 l[i].f3 l[i].f4 l[i].f5 l[i].f6 l[i].f7) r → Ev (fun k => impl_Merge.l0 k acc l (l.length : Int) (i : Int)) r := fun r hr => by
     refine Ev.step (fun k => ?_) hr
     simp only [impl_Merge.l0]
     rw [if_pos c1, if_pos c0, if_pos c1, hrd, if_pos k2, b7]
    by_cases p0 : (acc.length : Int) > 0
    ·have hj : acc.length - 1 < acc.length := by omega
     have wj : wrap64 ((acc.length : Int) - 1) = ((acc.length - 1 : Nat) : Int) := by rw [w64 (by omega) (by omega)]; omega
     have j0 : (0 : Int) ≤ ((acc.length - 1 : Nat) : Int) := by omega
     have j1 : ((acc.length - 1 : Nat) : Int) < (acc.length : Int) := by omega
     have hrj := rd_INode acc (acc.length - 1) hj
     by_cases k3 : acc[acc.length - 1].f0 = 2
     ·-- to the last text
      have hb := ht _ (List.getElem_mem hj)
      have hsz : acc[acc.length - 1].f7.size + l[i].f7.size ≤ 9223372036854775807 := by
       clear wi wj
       have g1 : tS acc[acc.length - 1] = (acc[acc.length - 1].f7.size : Int) := rfl
       have g2 : tS l[i] = (l[i].f7.size : Int) := rfl
       omega
      obtain ⟨r, r1, r2, r3, r4⟩ := ih (i + 1) (acc.set (acc.length - 1) ⟨acc[acc.length - 1].f0, acc[acc.length - 1].f1, acc[acc.length - 1].f2, acc[acc.length - 1].f3, acc[acc.length - 1].f4, acc[acc.length - 1].f5, acc[acc.length - 1].f6, acc[acc.length - 1].f7 ++ l[i].f7⟩) i1 i2 (by rw [List.length_set]; exact ia) (fun y hy => by
       rcases List.mem_or_eq_of_mem_set hy with h | h
       ·have := ht y h; omega
       ·rw [h]
        show ((acc[acc.length - 1].f7 ++ l[i].f7).size : Int) + _ ≤ _
        rw [ByteArray.size_append]
        have h1 : tS acc[acc.length - 1] = (acc[acc.length - 1].f7.size : Int) := rfl
        have h2 : tS l[i] = (l[i].f7.size : Int) := rfl
        omega) (by omega)
      rw [List.length_set, sumOf_set vNode acc _ hj _ (by rw [vNode_eq, vNode_eq])] at r3
      refine ⟨r, Ev.step (fun k => ?_) r1, imp r (Ev.step (fun k => ?_) r2), by omega, by rw [List.foldl_cons, mgS_g k2 e7 (by omega) k3]; exact r4⟩
      ·simp only [spec_Merge.l0]
       rw [if_pos c1, if_pos c0, hrd, if_pos k2, if_neg e7, if_pos p0, wj, if_pos j0, if_pos j1, hrj, if_pos k3, if_pos hsz, wi, Int.toNat_natCast]
      ·simp only [impl_Merge.j1]
       rw [if_neg (by simp), if_pos k2, if_pos p0, wj, if_pos j0, if_pos j1, hrj, if_pos k3, if_pos hsz, wi, Int.toNat_natCast]
     ·refine ⟨ra, Ev.step (fun k => ?_) sA, imp ra (Ev.step (fun k => ?_) iA), ra3, by rw [List.foldl_cons, mgS_n k2 e7 (by omega) k3]; exact ra4⟩
      ·simp only [spec_Merge.l0]
       rw [if_pos c1, if_pos c0, hrd, if_pos k2, if_neg e7, if_pos p0, wj, if_pos j0, if_pos j1, hrj, if_neg k3, wi]
      ·simp only [impl_Merge.j1]
       rw [if_neg (by simp), if_pos k2, if_pos p0, wj, if_pos j0, if_pos j1, hrj, if_neg k3, wi]
    ·refine ⟨ra, Ev.step (fun k => ?_) sA, imp ra (Ev.step (fun k => ?_) iA), ra3, by rw [List.foldl_cons, mgS_0 k2 e7 (by omega)]; exact ra4⟩
     ·simp only [spec_Merge.l0]
      rw [if_pos c1, if_pos c0, hrd, if_pos k2, if_neg e7, if_neg p0, wi]
     ·simp only [impl_Merge.j1]
      rw [if_neg (by simp), if_pos k2, if_neg p0, wi]
  ·refine ⟨ra, Ev.step (fun k => ?_) sA, Ev.step (f := fun k => impl_Merge.j1 k acc (acc.length : Int) l (l.length : Int) (i : Int) false l[i].f0 l[i].f1 l[i].f2 l[i].f3 l[i].f4 l[i].f5 l[i].f6 l[i].f7) (fun k => ?_) (Ev.step (fun k => ?_) iA), ra3, by rw [List.foldl_cons, mgS_t k2]; exact ra4⟩
   ·simp only [spec_Merge.l0]
    rw [if_pos c1, if_pos c0, hrd, if_neg k2, wi]
   ·simp only [impl_Merge.l0]
    rw [if_pos c1, if_pos c0, if_pos c1, hrd, if_neg k2]
   ·simp only [impl_Merge.j1]
    rw [if_neg (by simp), if_neg k2, wi]
theorem merge_f (l : List S34) (hl : (l.length : Int) + sumOf vNode l ≤ 1048576) (ht : sumOf tS l ≤ 1048576) : Ev (fun k => spec_Merge.f k l) (l.foldl mgS []) ∧ Ev (fun k => impl_Merge.f k l) (l.foldl mgS []) ∧ ((l.foldl mgS []).length : Int) + sumOf vNode (l.foldl mgS []) ≤ (l.length : Int) + sumOf vNode l := by
 have hs := sumOf_nonneg vNode_n l
 obtain ⟨r, r1, r2, r3, r4⟩ := merge_same l (by omega) (fun x hx => by have := sumOf_mem vNode_n hx; omega) l.length 0 [] (by omega) (by omega) (by simp) (fun y hy => by simp at hy) (by simpa using ht)
 rw [List.drop_zero] at r3 r4
 rw [List.length_nil, sumOf_nil] at r3
 subst r4
 exact ⟨Ev.congr (fun k => by simp [spec_Merge.f]) r1, Ev.congr (fun k => by simp [impl_Merge.f]) r2, by omega⟩
def atN : List Int → S34 → Option S34
 | [], x => some x
 | j :: ps, x => if 0 ≤ j ∧ j < (x.f6.length : Int) then (x.f6[j.toNat]?).bind (atN ps) else none
theorem markIntS_ex (l : List Int) (hl : l.length ≤ 4194304) (a : Int) (h0 : 0 ≤ a) (h1 : a ≤ 549755813888) : ∃ y, Ev (fun k => laws_markIntS.f k l a) (a + (l.length : Int), y) := by
 obtain ⟨y, hy, h⟩ := marks_from (n := l.length) (c := 1) (by omega) (G := fun k x a i => laws_markIntS.l0 k x a i)
  (fun x a i hx hi h0 h1 => ⟨x.set i a, by simp [hx], fun q hq => Ev.step (fun k => by
   simp only [laws_markIntS.l0]
   rw [if_pos (by omega), if_pos (by omega), Int.toNat_natCast, w64 (i := a + 1) (by omega) (by omega), w64 (i := (i : Int) + 1) (by omega) (by omega)]) hq⟩)
  (fun k x a hx => by simp only [laws_markIntS.l0]; rw [if_neg (by omega)]) l.length 0 l a rfl (by omega) (by omega) h0 (by omega)
 rw [Int.one_mul] at h
 exact ⟨y, Ev.congr (fun k => by simp [laws_markIntS.f]) h⟩
theorem heldNode_ev (x : S34) (hv : vNode x ≤ 1048576) (a : Int) (h0 : 0 ≤ a) (h1 : a ≤ 274877906944) :
  ∃ r z, Ev (fun k => laws_markNode.g k x a) (r, z) ∧ a ≤ r ∧ r ≤ a + 8 * (1 + vNode x) ∧ Ev (fun k => laws_heldNode.f k z.f0 z.f1 z.f2 z.f3 z.f4 z.f5 z.f6 z.f7 a) r := by
 obtain ⟨b4, b5, b6, bs, bk⟩ := vNode_bounds x
 have e := vNode_eq x
 have hs := sumOf_nonneg vNode_n x.f6
 obtain ⟨r, z, hr, c1, c2, hh⟩ := markHeldS_of x.f6 (by omega) (fun y hy => markHeld_node y (by have := bk y hy; omega)) (a + 2 * (x.f4.length : Int) + 4 * (x.f5.length : Int)) (by omega) (by omega)
 have gd := heldDecl_f a x.f4.length (by omega) (by omega)
 have gt := heldAttr_f (a + 2 * (x.f4.length : Int)) x.f5.length (by omega) (by omega)
 refine ⟨r, ⟨x.f0, x.f1, x.f2, x.f3, mDecl a x.f4.length, mAttr (a + 2 * (x.f4.length : Int)) x.f5.length, z, x.f7⟩, ?_, by omega, by omega, ?_⟩
 ·refine Ev.congr (fun k => by simp only [laws_markNode.g]; rfl) (Ev.bind (markDecl_f a x.f4 (by omega) (by omega)) ?_)
  refine Ev.bind (markAttr_f _ x.f5 (by omega) (by omega)) ?_
  refine Ev.bind hr ?_
  exact Ev.now _
 ·refine Ev.congr (fun k => by simp only [laws_heldNode.f]; rfl) (Ev.bind gd ?_)
  refine Ev.congr (fun k => by rw [if_neg (by omega)]) (Ev.bind gt ?_)
  refine Ev.congr (fun k => by rw [if_neg (by omega)]) (Ev.bind hh ?_)
  exact Ev.congr (fun k => by rw [if_neg (by omega)]) (Ev.now _)
theorem nodeat_at (p : List Int) (hp : p.length ≤ 1048576) (d : Nat) : ∀ (i : Nat) (x : S34), i ≤ p.length → p.length - i = d → vNode x ≤ 1048576 →
  ∃ (y : S34) (b : Bool), vNode y ≤ 1048576 ∧ Ev (fun k => spec_NodeAt.l0 k p (i : Int) x.f0 x.f1 x.f2 x.f3 x.f4 x.f5 x.f6 x.f7) (y.f0, y.f1, y.f2, y.f3, y.f4, y.f5, y.f6, y.f7, b) ∧ Ev (fun k => impl_NodeAt.l0 k p (p.length : Int) (i : Int) x.f0 x.f1 x.f2 x.f3 x.f4 x.f5 x.f6 x.f7) (y.f0, y.f1, y.f2, y.f3, y.f4, y.f5, y.f6, y.f7, b) ∧ (b = true → atN (p.drop i) x = some y) := by
 induction d with
 | zero =>
  intro i x hi hd hv
  refine ⟨x, true, hv, ?_, ?_, fun _ => by rw [List.drop_of_length_le (by omega)]; rfl⟩
  ·refine Ev.step (fun k => by simp only [spec_NodeAt.l0]; rw [if_neg (by omega)]) (Ev.bind (l5Copy_f x hv) ?_)
   exact Ev.now _
  ·refine Ev.step (fun k => by simp only [impl_NodeAt.l0]; rw [if_neg (by omega)]) (Ev.bind (cloneNode_f x hv) ?_)
   exact Ev.now _
 | succ d ih =>
  intro i x hi hd hv
  obtain ⟨b4, b5, b6, bs, bk⟩ := vNode_bounds x
  have c0 : (0 : Int) ≤ (i : Int) := by omega
  have c1 : (i : Int) < (p.length : Int) := by omega
  have wi : wrap64 ((i : Int) + 1) = ((i + 1 : Nat) : Int) := by rw [w64 (by omega) (by omega)]; omega
  have wl : wrap64 ((x.f6.length : Int) - 1) = (x.f6.length : Int) - 1 := by clear wi; exact w64 (by omega) (by omega)
  obtain ⟨j, hj⟩ : ∃ j, rd p (i : Int) = j := ⟨_, rfl⟩
  have zero : ∃ y : S34, vNode y ≤ 1048576 ∧ y = ⟨0, (⟨#[]⟩ : ByteArray), (⟨#[]⟩ : ByteArray), (⟨#[]⟩ : ByteArray), [], [], [], (⟨#[]⟩ : ByteArray)⟩ := ⟨_, by rw [vNode_eq]; simp [sumOf_nil], rfl⟩
  obtain ⟨y0, hy0, rfl⟩ := zero
  by_cases j0 : j ≥ 0
  ·by_cases j1 : j ≤ (x.f6.length : Int) - 1
   ·have hlt : j.toNat < x.f6.length := by clear wi wl; omega
    have j2 : j < (x.f6.length : Int) := by clear wi wl; omega
    have hrd : rd_T34 x.f6 j = x.f6[j.toNat] := by
     have e : j = ((j.toNat : Nat) : Int) := by clear wi wl; omega
     have h := rd_INode x.f6 j.toNat hlt
     rw [← e] at h
     exact h
    obtain ⟨y, b, hy, h1, h2, h3⟩ := ih (i + 1) x.f6[j.toNat] (by clear wi wl; omega) (by clear wi wl; omega) (by have := bk _ (List.getElem_mem hlt); clear wi wl; omega)
    refine ⟨y, b, hy, Ev.step (fun k => ?_) h1, Ev.step (fun k => ?_) h2, fun hb => by
     have hip : i < p.length := by clear wi wl; omega
     have ej : p[i] = j := by rw [← hj]; simp [rd, List.getD_eq_getElem?_getD, List.getElem?_eq_getElem hip]
     rw [List.drop_eq_getElem_cons hip, ej]
     simp only [atN]
     rw [if_pos ⟨j0, j2⟩, List.getElem?_eq_getElem hlt]
     exact h3 hb⟩
    ·simp only [spec_NodeAt.l0, spec_l1In.f]
     rw [if_pos c1, if_pos c0, hj, if_pos j0, Option.bind_some, wl, if_pos (decide_eq_true j1), if_pos j0, if_pos j2, hrd, wi]
    ·simp only [impl_NodeAt.l0, impl_in.f]
     rw [if_pos c1, if_pos c0, if_pos c1, hj, if_pos j0, Option.bind_some, wl, if_pos (decide_eq_true j1), if_pos j0, if_pos j2, hrd, wi]
   ·refine ⟨_, false, hy0, Ev.step (fun k => ?_) (Ev.now _), Ev.step (fun k => ?_) (Ev.now _), fun hb => absurd hb (by simp)⟩
    ·simp only [spec_NodeAt.l0, spec_l1In.f]
     rw [if_pos c1, if_pos c0, hj, if_pos j0, Option.bind_some, wl, if_neg (by simpa using j1)]
    ·simp only [impl_NodeAt.l0, impl_in.f]
     rw [if_pos c1, if_pos c0, if_pos c1, hj, if_pos j0, Option.bind_some, wl, if_neg (by simpa using j1)]
  ·refine ⟨_, false, hy0, Ev.step (fun k => ?_) (Ev.now _), Ev.step (fun k => ?_) (Ev.now _), fun hb => absurd hb (by simp)⟩
   ·simp only [spec_NodeAt.l0, spec_l1In.f]
    rw [if_pos c1, if_pos c0, hj, if_neg j0, Option.bind_some, if_neg (by simp)]
   ·simp only [impl_NodeAt.l0, impl_in.f]
    rw [if_pos c1, if_pos c0, if_pos c1, hj, if_neg j0, Option.bind_some, if_neg (by simp)]
theorem tS_conv (l : List S26) : sumOf tS (l.map cNo) ≤ sumOf wNode l := by
 refine sumOf_map_le (fun x _ => ?_)
 rw [convNode_eq, wNode_eq]
 have := sumOf_nonneg wDecl_n x.f4
 have := sumOf_nonneg wAttr_n x.f5
 have := sumOf_nonneg wNode_n x.f6
 show (x.f7.size : Int) ≤ _
 omega
theorem sumOf_cut {α : Type} (w : α → Int) (l : List α) (n : Nat) : sumOf w (l.take n) + sumOf w (l.drop n) = sumOf w l := by
 rw [← sumOf_append, List.take_append_drop]
theorem sumOf_put {α : Type} (w : α → Int) (l : List α) : ∀ (i : Nat) (h : i < l.length) (y : α), sumOf w (l.set i y) + w l[i] = sumOf w l + w y := by
 induction l with
 | nil => intro i h; simp at h
 | cons x l ih =>
  intro i h y
  cases i with
  | zero => rw [List.set_cons_zero, sumOf_cons, sumOf_cons]; show w y + _ + w x = _; omega
  | succ i => rw [List.set_cons_succ, sumOf_cons, sumOf_cons]; have hi : i < l.length := (by simpa using h); have := ih i hi y; show w x + _ + w l[i] = _; omega
theorem concat3 (a b c : List S34) (ha : a.length ≤ 1048576) (hb : b.length ≤ 1048576) (hc : c.length ≤ 1048576) : Ev (fun k => impl_Node_50.f k [a, b, c]) (a ++ b ++ c) := by
 have e0 : rd_L13 [a, b, c] 0 = a := rfl
 have e1 : rd_L13 [a, b, c] 1 = b := rfl
 have e2 : rd_L13 [a, b, c] 2 = c := rfl
 have w0 : wrap64 (0 + (a.length : Int)) = (a.length : Int) := by rw [w64 (by omega) (by omega)]; omega
 have w1 : wrap64 ((a.length : Int) + (b.length : Int)) = (a.length : Int) + (b.length : Int) := w64 (by omega) (by omega)
 have w2 : wrap64 ((a.length : Int) + (b.length : Int) + (c.length : Int)) = (a.length : Int) + (b.length : Int) + (c.length : Int) := w64 (by omega) (by omega)
 have u0 : wrap64 (0 + 1) = 1 := by unfold wrap64; omega
 have u1 : wrap64 (1 + 1) = 2 := by unfold wrap64; omega
 have u2 : wrap64 (2 + 1) = 3 := by unfold wrap64; omega
 have hl : ((([a, b, c] : List (List S34)).length : Nat) : Int) = 3 := rfl
 have hg : impl_Node_53.f [] ((a.length : Int) + (b.length : Int) + (c.length : Int)) = some [] := by unfold impl_Node_53.f; rw [if_pos (by omega), if_pos (by omega)]
 refine Ev.congr (fun k => by unfold impl_Node_50.f; rw [hl]) ?_
 refine Ev.step (fun k => by simp only [impl_Node_50.l0]; rw [if_pos (by omega), if_pos (by omega), if_pos (by omega), e0, w0, if_neg (by omega), u0]) ?_
 refine Ev.step (fun k => by simp only [impl_Node_50.l0]; rw [if_pos (by omega), if_pos (by omega), if_pos (by omega), e1, w1, if_neg (by omega), u1]) ?_
 refine Ev.step (fun k => by simp only [impl_Node_50.l0]; rw [if_pos (by omega), if_pos (by omega), if_pos (by omega), e2, w2, if_neg (by omega), u2]) ?_
 refine Ev.step (fun k => by simp only [impl_Node_50.l0]; rw [if_neg (by omega), hg]) ?_
 simp only [Option.bind_some]
 rw [hl]
 refine Ev.step (fun k => by simp only [impl_Node_50.l1]; rw [if_pos (by omega), if_pos (by omega), if_pos (by omega), e0, if_pos (by simp; omega), u0]) ?_
 refine Ev.step (fun k => by simp only [impl_Node_50.l1]; rw [if_pos (by omega), if_pos (by omega), if_pos (by omega), e1, if_pos (by simp; omega), u1]) ?_
 refine Ev.step (fun k => by simp only [impl_Node_50.l1]; rw [if_pos (by omega), if_pos (by omega), if_pos (by omega), e2, if_pos (by simp; omega), u2]) ?_
 exact Ev.step (fun k => by simp only [impl_Node_50.l1]; rw [if_neg (by omega)]; rfl) (Ev.now _)
theorem turn_nil (X : S34) (M : List S34) (i : Int) (hv : vNode X ≤ 1048576) (h0 : 0 ≤ i) (h1 : i ≤ (X.f6.length : Int)) (hl : (X.f6.length : Int) + sumOf vNode X.f6 + ((M.length : Int) + sumOf vNode M) ≤ 1048576) (ht : sumOf tS X.f6 + sumOf tS M ≤ 1048576) :
  ∃ z, Ev (fun k => spec_l10Turn.f k X [] i M) z ∧ Ev (fun k => impl_turnedAt.f k X [] i M) z ∧ vNode z ≤ vNode X + ((M.length : Int) + sumOf vNode M) := by
 have s0 := sumOf_nonneg vNode_n X.f6
 have s1 := sumOf_nonneg vNode_n M
 have c1 := sumOf_cut vNode X.f6 i.toNat
 have c2 := sumOf_cut tS X.f6 i.toNat
 have el : (X.f6.take i.toNat ++ M ++ X.f6.drop i.toNat).length = X.f6.length + M.length := by
  rw [List.length_append, List.length_append, List.length_take, List.length_drop]; omega
 have sv : sumOf vNode (X.f6.take i.toNat ++ M ++ X.f6.drop i.toNat) = sumOf vNode X.f6 + sumOf vNode M := by rw [sumOf_append, sumOf_append]; omega
 have st : sumOf tS (X.f6.take i.toNat ++ M ++ X.f6.drop i.toNat) = sumOf tS X.f6 + sumOf tS M := by rw [sumOf_append, sumOf_append]; omega
 obtain ⟨m1, m2, m3⟩ := merge_f (X.f6.take i.toNat ++ M ++ X.f6.drop i.toNat) (by rw [el, sv]; omega) (by rw [st]; omega)
 rw [el, sv] at m3
 have hc := concat3 (X.f6.take i.toNat) M (X.f6.drop i.toNat) (by rw [List.length_take]; omega) (by omega) (by rw [List.length_drop]; omega)
 have hsp : Ev (fun k => impl_spliced.f k X.f6 i i M) ((X.f6.take i.toNat ++ M ++ X.f6.drop i.toNat).foldl mgS []) := by
  refine Ev.congr (fun k => by simp only [impl_spliced.f]; rw [if_pos h0, if_pos h1, if_pos h0, if_pos h1]) (Ev.bind hc ?_)
  refine Ev.bind m2 ?_
  exact Ev.now _
 refine ⟨⟨X.f0, X.f1, X.f2, X.f3, X.f4, X.f5, (X.f6.take i.toNat ++ M ++ X.f6.drop i.toNat).foldl mgS [], X.f7⟩, ?_, ?_, ?_⟩
 ·refine Ev.step (fun k => by simp only [spec_l10Turn.f]; rw [if_pos ⟨h0, h1, by omega⟩]) (Ev.bind m1 ?_)
  exact Ev.now _
 ·refine Ev.step (fun k => by simp only [impl_turnedAt.f]; rfl) (Ev.bind (cloneNode_f X hv) ?_)
  refine Ev.congr (fun k => by simp only [impl_turnedAt.turn]; rfl) (Ev.bind hsp ?_)
  exact Ev.now _
 ·rw [vNode_eq, vNode_eq X]
  show _ + _ + ((((X.f6.take i.toNat ++ M ++ X.f6.drop i.toNat).foldl mgS []).length : Int) + sumOf vNode _) ≤ _
  simp only
  omega
theorem turn_cons (X : S34) (M : List S34) (i j : Int) (ps : List Int) (hv : vNode X ≤ 1048576) (h0 : 0 ≤ j) (h1 : j < (X.f6.length : Int)) (z : S34) (c : Int) (e1 : Ev (fun k => spec_l10Turn.f k (rd_T34 X.f6 j) ps i M) z) (e2 : Ev (fun k => impl_turnedAt.f k (rd_T34 X.f6 j) ps i M) z) (hz : vNode z ≤ vNode (rd_T34 X.f6 j) + c) :
  ∃ z, Ev (fun k => spec_l10Turn.f k X (j :: ps) i M) z ∧ Ev (fun k => impl_turnedAt.f k X (j :: ps) i M) z ∧ vNode z ≤ vNode X + c := by
 have b := (vNode_bounds X).2.2.1
 have hlt : j.toNat < X.f6.length := by omega
 have hrd : rd_T34 X.f6 j = X.f6[j.toNat] := by
  have e : j = ((j.toNat : Nat) : Int) := by omega
  have h := rd_INode X.f6 j.toNat hlt
  rw [← e] at h
  exact h
 refine ⟨⟨X.f0, X.f1, X.f2, X.f3, X.f4, X.f5, X.f6.set j.toNat z, X.f7⟩, ?_, ?_, ?_⟩
 ·refine Ev.step (fun k => by simp only [spec_l10Turn.f]; rw [if_pos ⟨h0, h1, by omega⟩]) (Ev.bind e1 ?_)
  exact Ev.now _
 ·refine Ev.step (fun k => by simp only [impl_turnedAt.f]; rfl) (Ev.bind (cloneNode_f X hv) ?_)
  refine Ev.congr (fun k => by rw [if_pos ⟨h0, h1⟩]) (Ev.bind e2 ?_)
  exact Ev.now _
 ·have p := sumOf_put vNode X.f6 j.toNat hlt z
  rw [hrd] at hz
  rw [vNode_eq, vNode_eq X]
  simp only [List.length_set]
  omega
theorem turn_same (m : List S26) (i : Int) (p : List Int) : ∀ (x : S26) (y : S34), wNode x + ((m.length : Int) + sumOf wNode m) ≤ 1048576 → atN p (cNo x) = some y → 0 ≤ i → i ≤ (y.f6.length : Int) →
  ∃ z, Ev (fun k => spec_l10Turn.f k (cNo x) p i (m.map cNo)) z ∧ Ev (fun k => impl_turnedAt.f k (cNo x) p i (m.map cNo)) z ∧ vNode z ≤ vNode (cNo x) + (((m.map cNo).length : Int) + sumOf vNode (m.map cNo)) := by
 have q0 := sumOf_nonneg wNode_n m
 have q1 : sumOf vNode (m.map cNo) ≤ sumOf wNode m := sumOf_map_le (fun x _ => vNode_conv x)
 have q2 := tS_conv m
 have q3 : (m.map cNo).length = m.length := List.length_map ..
 induction p with
 | nil =>
  intro x y hw hy h0 h1
  have hv := vNode_conv x
  simp only [atN, Option.some.injEq] at hy
  subst hy
  obtain ⟨-, -, b6, bs, -⟩ := wNode_bounds x
  have e6 : (cNo x).f6 = x.f6.map cNo := by rw [convNode_eq]
  have b := (wNode_eq x)
  have n4 := sumOf_nonneg wDecl_n x.f4
  have n5 := sumOf_nonneg wAttr_n x.f5
  have k1 : sumOf vNode (x.f6.map cNo) ≤ sumOf wNode x.f6 := sumOf_map_le (fun x _ => vNode_conv x)
  have k2 := tS_conv x.f6
  have k3 : (x.f6.map cNo).length = x.f6.length := List.length_map ..
  exact turn_nil (cNo x) (m.map cNo) i (by omega) h0 h1 (by rw [e6, k3, q3]; omega) (by rw [e6]; omega)
 | cons j ps ih =>
  intro x y hw hy h0 h1
  have hv := vNode_conv x
  simp only [atN] at hy
  by_cases hj : 0 ≤ j ∧ j < ((cNo x).f6.length : Int)
  ·rw [if_pos hj] at hy
   have e6 : (cNo x).f6 = x.f6.map cNo := by rw [convNode_eq]
   have hlt : j.toNat < (cNo x).f6.length := by omega
   have hlt' : j.toNat < x.f6.length := by rw [e6, List.length_map] at hlt; exact hlt
   have hel : (cNo x).f6[j.toNat] = cNo x.f6[j.toNat] := by simp only [e6, List.getElem_map]
   have hrd : rd_T34 (cNo x).f6 j = cNo x.f6[j.toNat] := by
    have e : j = ((j.toNat : Nat) : Int) := by omega
    have h := rd_INode (cNo x).f6 j.toNat hlt
    rw [← e] at h
    rw [h, hel]
   rw [List.getElem?_eq_getElem hlt, hel] at hy
   obtain ⟨z, z1, z2, z3⟩ := ih x.f6[j.toNat] y (by have := (wNode_bounds x).2.2.2.2 _ (List.getElem_mem hlt'); omega) hy h0 h1
   exact turn_cons (cNo x) (m.map cNo) i j ps (by omega) hj.1 hj.2 z _ (by rw [hrd]; exact z1) (by rw [hrd]; exact z2) (by rw [hrd]; exact z3)
  ·rw [if_neg hj] at hy
   cases hy
theorem bad_some (b : Bool) (kd n i : Int) : ∃ c, spec_InsertAt.bad b kd n i = some c ∧ impl_InsertAt.bad b kd n i = some c ∧ (c = false → b = true ∧ 0 ≤ i ∧ i ≤ n) := by
 unfold spec_InsertAt.bad impl_InsertAt.bad spec_l1In.f impl_in.f
 cases b with
 | false => exact ⟨true, rfl, rfl, fun h => by cases h⟩
 | true =>
  simp only [if_true]
  by_cases k : kd = 1 ∨ kd = 0
  ·rw [if_pos k]
   by_cases j : i ≥ 0
   ·rw [if_pos j]
    refine ⟨!decide (i ≤ n), rfl, rfl, fun h => ⟨trivial, j, ?_⟩⟩
    simpa using h
   ·rw [if_neg j]
    exact ⟨true, rfl, rfl, fun h => by cases h⟩
  ·rw [if_neg k]
   exact ⟨true, rfl, rfl, fun h => by cases h⟩
theorem insert_same (x : S26) (p : List Int) (i : Int) (m : List S26) (hp : p.length ≤ 1048576) (hw : wNode x + ((m.length : Int) + sumOf wNode m) ≤ 1048576) :
  ∃ (g : S34) (b : Bool), vNode g ≤ 1048576 ∧ Ev (fun k => spec_InsertAt.f k (cNo x) p i (m.map cNo)) (g, b) ∧ Ev (fun k => impl_InsertAt.f k (cNo x) p i (m.map cNo)) (g, b) := by
 have q0 := sumOf_nonneg wNode_n m
 have hv := vNode_conv x
 have hv2 : vNode (cNo x) ≤ 1048576 := by omega
 obtain ⟨y, b, hy, n1, n2, n3⟩ := nodeat_at p hp p.length 0 (cNo x) (by omega) (by omega) hv2
 rw [List.drop_zero] at n3
 have n1 : Ev (fun k => spec_NodeAt.f k (cNo x).f0 (cNo x).f1 (cNo x).f2 (cNo x).f3 (cNo x).f4 (cNo x).f5 (cNo x).f6 (cNo x).f7 p) (y.f0, y.f1, y.f2, y.f3, y.f4, y.f5, y.f6, y.f7, b) := Ev.congr (fun k => by simp only [spec_NodeAt.f]; rfl) n1
 have n2 : Ev (fun k => impl_NodeAt.f k (cNo x).f0 (cNo x).f1 (cNo x).f2 (cNo x).f3 (cNo x).f4 (cNo x).f5 (cNo x).f6 (cNo x).f7 p) (y.f0, y.f1, y.f2, y.f3, y.f4, y.f5, y.f6, y.f7, b) := Ev.congr (fun k => by simp only [impl_NodeAt.f]; rfl) n2
 obtain ⟨c, c1, c2, c3⟩ := bad_some b y.f0 (y.f6.length : Int) i
 cases c with
 | true =>
  refine ⟨cNo x, false, hv2, ?_, ?_⟩
  ·refine Ev.congr (fun k => by simp only [spec_InsertAt.f]; rfl) (Ev.bind n1 ?_)
   refine Ev.congr (fun k => by rw [c1, Option.bind_some, if_pos rfl]) (Ev.bind (l5Copy_f (cNo x) hv2) ?_)
   exact Ev.congr (fun k => by rw [nodeEta]) (Ev.now _)
  ·refine Ev.congr (fun k => by simp only [impl_InsertAt.f]; rfl) (Ev.bind n2 ?_)
   refine Ev.congr (fun k => by rw [c2, Option.bind_some, if_pos rfl]) (Ev.bind (cloneNode_f (cNo x) hv2) ?_)
   exact Ev.congr (fun k => by rw [nodeEta]) (Ev.now _)
 | false =>
  obtain ⟨rfl, i0, i1⟩ := c3 rfl
  obtain ⟨z, z1, z2, z3⟩ := turn_same m i p x y hw (n3 rfl) i0 i1
  have hz : vNode z ≤ 1048576 := by
   have q1 : sumOf vNode (m.map cNo) ≤ sumOf wNode m := sumOf_map_le (fun x _ => vNode_conv x)
   rw [List.length_map] at z3
   omega
  refine ⟨z, true, hz, ?_, ?_⟩
  ·refine Ev.congr (fun k => by simp only [spec_InsertAt.f]; rfl) (Ev.bind n1 ?_)
   refine Ev.congr (fun k => by rw [c1, Option.bind_some, if_neg (by simp)]) (Ev.bind z1 ?_)
   refine Ev.bind (l5Copy_f z hz) ?_
   exact Ev.congr (fun k => by rw [nodeEta]) (Ev.now _)
  ·refine Ev.congr (fun k => by simp only [impl_InsertAt.f]; rfl) (Ev.bind n2 ?_)
   refine Ev.congr (fun k => by rw [c2, Option.bind_some, if_neg (by simp)]) (Ev.bind z2 ?_)
   exact Ev.now _
theorem FnExactInsertAt : laws_FnExactInsertAt.Pure := by
 intro x p i m hw _ _ hm
 by_cases hp : (p.length : Int) > 1048576
 ·exact ⟨0, by simp only [laws_FnExactInsertAt.f]; rw [if_pos hp]⟩
 obtain ⟨r, hr, hrw⟩ := szNode_f x hw 1048576 (by omega) (by omega)
 refine Ev.rounds (r := true) ?_
 refine Ev.congr (fun k => by simp only [laws_FnExactInsertAt.f]; rw [if_neg hp]) (Ev.bind hr ?_)
 by_cases hn : r < 0
 ·exact Ev.congr (fun k => by rw [if_pos hn]) (Ev.now _)
 have hx0 := wNode_n x
 obtain ⟨r2, hr2, hrw2⟩ := szNodeS_f m hm r (by omega) (by have := hrw (by omega); omega)
 refine Ev.congr (fun k => by rw [if_neg hn]) (Ev.bind hr2 ?_)
 by_cases hn2 : r2 < 0
 ·exact Ev.congr (fun k => by rw [if_pos hn2]) (Ev.now _)
 have hs := sumOf_nonneg wNode_n m
 have hall : wNode x + ((m.length : Int) + sumOf wNode m) ≤ 1048576 := by have := hrw (by omega); have := hrw2 (by omega); omega
 have hwn : wNode x ≤ 1048576 := by omega
 have hv : vNode (cNo x) ≤ 1048576 := by have := vNode_conv x; omega
 have hvm : sumOf vNode (m.map cNo) ≤ sumOf wNode m := sumOf_map_le (fun x _ => vNode_conv x)
 have hlm : (m.map cNo).length = m.length := List.length_map ..
 have ht := toNode_f x hwn
 have hi := toIntS_f p (by omega)
 have hts := toNodeS_f m (by omega) (fun y hy => by have := sumOf_mem wNode_n hy; omega)
 obtain ⟨y, b, hy, s1, s2⟩ := insert_same x p i m (by omega) hall
 have he := eqNode_f y hy
 have hx := eqNode_f (cNo x) hv
 have hq := eqIntS_f p (by omega)
 have hes := eqNodeS_f (m.map cNo) (by omega) (fun y hy => by have := sumOf_mem vNode_n hy; omega)
 obtain ⟨m1, m2, hmk, hm0, hm1⟩ : ∃ r z, Ev (fun k => laws_markNode.g k (cNo x) 1) (r, z) ∧ 1 ≤ r ∧ r ≤ 1 + 8 * (1 + vNode (cNo x)) := by
  obtain ⟨r, z, h1, h2, h3, _⟩ := heldNode_ev (cNo x) hv 1 (by omega) (by omega)
  exact ⟨r, z, h1, h2, h3⟩
 obtain ⟨n2, hk⟩ := markIntS_ex p (by omega) m1 (by omega) (by omega)
 obtain ⟨o1, o2, ho, ho1, _⟩ := markHeldS_ev (m.map cNo) (by omega) (m1 + (p.length : Int)) (by omega) (by omega)
 obtain ⟨q1, q2, g1, g2, g3, g4⟩ := heldNode_ev y hy 1 (by omega) (by omega)
 rw [convNode_eq] at s1 s2
 have hmg : Ev (fun k => laws_markNode.g k ⟨x.f0, x.f1, x.f2, x.f3, x.f4.map cDe, x.f5.map cAt, x.f6.map cNo, x.f7⟩ 1) (m1, m2) := by rw [convNode_eq] at hmk; exact hmk
 rw [convNode_eq] at hx
 refine Ev.congr (fun k => by rw [if_neg hn2]) (Ev.bind ht ?_)
 refine Ev.bind hi ?_
 refine Ev.bind hts ?_
 refine Ev.bind s1 ?_
 refine Ev.bind s2 ?_
 refine Ev.bind he ?_
 refine Ev.bind hx ?_
 refine Ev.bind hq ?_
 refine Ev.bind hes ?_
 refine Ev.bind hmg ?_
 refine Ev.bind hk ?_
 refine Ev.bind ho ?_
 refine Ev.bind g1 ?_
 refine Ev.bind g4 ?_
 exact Ev.congr (fun k => by rw [if_pos ⟨rfl, rfl, rfl, rfl, rfl, by show ¬ o1 < 0; omega, by omega, rfl⟩]) (Ev.now _)

end FnExactInsertAt_
theorem FnExactInsertAt : laws_FnExactInsertAt.Pure := FnExactInsertAt_.FnExactInsertAt
end Go.Proofs.Ytglmahgliihkaaa.Pure
