/- The program's NodeAt and the reference's answer alike at every tree and path; both read as they did; what it hands back is memory of its own, all rows apart.
Conditions: none. -/
import Derived.Test.YtdbinpeglamnnaaSaidFnExactNodeAt
import Derived.Test.YtdbinpeglamnnaaLists
namespace Go.Proofs.Ytdbinpeglamnnaa.Pure
open Go.RowKit Go.Proofs.Ytdbinpeglamnnaa.PA Go.Proofs.YtdbinpeglamnnaaW.PrintWords Go.Proofs.YtdbinpeglamnnaaW.PrintLast Go.Proofs.Ytdbinpeglamnnaa.Lists
set_option linter.unusedVariables false
set_option linter.unusedSimpArgs false

namespace FnExactNodeAt_
theorem w64 {i : Int} (h0 : -9223372036854775808 ≤ i) (h1 : i ≤ 9223372036854775807) : wrap64 i = i := by unfold wrap64; omega
theorem rd_nat (l : List Int) (i : Nat) : rd l (i : Int) = l.getD i 0 := by simp [rd]
theorem toIntS_l (l : List Int) (hl : l.length ≤ 1048576) (d : Nat) : ∀ (i : Nat) (x : List Int), x.length = l.length → (∀ j, j < i → x[j]? = l[j]?) → i ≤ l.length → l.length - i = d →
  Ev (fun k => laws_toIntS.l0 k l x (i : Int)) l := by
 induction d with
 | zero =>
  intro i x hx hj hi hd
  have e : x = l := List.ext_getElem? (fun j => by
   by_cases hlt : j < i
   ·exact hj j hlt
   ·rw [List.getElem?_eq_none (by omega), List.getElem?_eq_none (by omega)])
  refine Ev.step (fun k => ?_) (Ev.now l)
  simp only [laws_toIntS.l0]
  rw [if_neg (by omega), e]
 | succ d ih =>
  intro i x hx hj hi hd
  refine Ev.step (fun k => ?_) (ih (i + 1) (x.set i (l.getD i 0)) (by simp [hx]) ?_ (by omega) (by omega))
  ·simp only [laws_toIntS.l0]
   rw [if_pos (by omega), if_pos (by omega), if_pos (by omega), rd_nat, w64 (by omega) (by omega)]
   simp
  ·intro j hlt
   by_cases e : j = i
   ·subst e
    rw [List.getElem?_set_self (by omega)]
    rw [List.getD_eq_getElem?_getD]
    rw [List.getElem?_eq_getElem (by omega)]
    simp
   ·rw [List.getElem?_set_ne (by omega)]
    exact hj j (by omega)
theorem toIntS_f (l : List Int) (hl : l.length ≤ 1048576) : Ev (fun k => laws_toIntS.f k l) l := by
 refine Ev.congr (fun k => ?_) (toIntS_l l hl l.length 0 (List.replicate l.length 0) (by simp) (by intro j h; omega) (by omega) (by omega))
 simp only [laws_toIntS.f]
 rw [if_pos (by omega), if_pos (by omega)]
 simp
theorem eqIntS_l (l : List Int) (hl : l.length ≤ 1048576) (d : Nat) : ∀ (i : Nat), i ≤ l.length → l.length - i = d → Ev (fun k => laws_eqIntS.l0 k l l (i : Int)) true := by
 induction d with
 | zero =>
  intro i hi hd
  refine Ev.step (fun k => ?_) (Ev.now true)
  simp only [laws_eqIntS.l0]
  rw [if_neg (by omega)]
 | succ d ih =>
  intro i hi hd
  refine Ev.step (fun k => ?_) (ih (i + 1) (by omega) (by omega))
  simp only [laws_eqIntS.l0]
  rw [if_pos (by omega), if_pos (by omega), if_pos (by omega), if_pos trivial, w64 (by omega) (by omega)]
  simp
theorem eqIntS_f (l : List Int) (hl : l.length ≤ 1048576) : Ev (fun k => laws_eqIntS.f k l l) true := by
 refine Ev.congr (fun k => ?_) (eqIntS_l l hl l.length 0 (by omega) (by omega))
 simp only [laws_eqIntS.f]
 rw [if_pos trivial]
 simp
def sameFrom (a b : List Int) (i n : Nat) : Prop := ∀ j, i ≤ j → j < n → a.getD j 0 = b.getD j 0
theorem rd_LDecl (l : List S84) (i : Nat) (h : i < l.length) : rd_T84 l (i : Int) = l[i] := by simp [rd_T84, List.getD_eq_getElem?_getD, List.getElem?_eq_getElem h]
def cDe (x : S84) : S88 := ⟨x.f0, x.f1⟩
theorem eqDecl_f (x : S88) : laws_eqDecl.f x.f0 x.f1 x.f0 x.f1 = some true := by
 unfold laws_eqDecl.f
 simp
def wDecl (x : S84) : Int := (x.f0.size : Int) + (x.f1.size : Int)
theorem wDecl_n (x : S84) : 0 ≤ wDecl x := by unfold wDecl; omega
theorem szDecl_f (x : S84) (left : Int) (hw : WF84 x) (h0 : 0 ≤ left) (h1 : left ≤ 1048576) : ∃ r, laws_szDecl.f x.f0 x.f1 left = some r ∧ (0 ≤ r → r + wDecl x = left) := by
 obtain ⟨h_0, h_1⟩ := hw
 unfold maxLen at h_0 h_1
 unfold laws_szDecl.f wrap64 wDecl
 split
 ·exact ⟨_, rfl, by omega⟩
 split
 ·exact ⟨_, rfl, by omega⟩
 exact ⟨_, rfl, fun _ => by omega⟩
theorem szDeclS_f (l : List S84) (hw : l.length ≤ maxLen ∧ ∀ x ∈ l, WF84 x) (left : Int) (h0 : 0 ≤ left) (h1 : left ≤ 1048576) : ∃ r, Ev (fun k => laws_szDeclS.f k l left) r ∧ (0 ≤ r → r + ((l.length : Int) + sumOf wDecl l) = left) := by
 obtain ⟨hl, hw⟩ := hw
 unfold maxLen at hl
 have e : wrap64 (left - (l.length : Int)) = left - (l.length : Int) := w64 (by omega) (by omega)
 by_cases hn : left - (l.length : Int) < 0
 ·exact ⟨-1, Ev.congr (fun k => by simp only [laws_szDeclS.f]; rw [e, if_pos hn]) (Ev.now _), fun h => by omega⟩
 ·obtain ⟨r, hr, hrw⟩ := size_all (l := l) (w := wDecl) (M := 1048576) (G := fun k left i => laws_szDeclS.l0 k l left i) (H := fun _ left i => laws_szDecl.f (rd_T84 l (i : Int)).f0 (rd_T84 l (i : Int)).f1 left) wDecl_n
   (fun k left i h0 hi => by simp only [laws_szDeclS.l0]; rw [if_pos (by omega), if_pos (by omega), w64 (by omega) (by omega)])
   (fun i hi left h0 h1 => by
    obtain ⟨r, a, b⟩ := szDecl_f l[i] left (hw _ (List.getElem_mem hi)) h0 h1
    exact ⟨r, Ev.congr (fun k => by rw [rd_LDecl l i hi]; exact a) (Ev.now r), b⟩)
   (fun k left h0 => by simp only [laws_szDeclS.l0]; rw [if_neg (by omega)]) (left - (l.length : Int)) (by omega) (by omega)
  exact ⟨r, Ev.congr (fun k => by simp only [laws_szDeclS.f]; rw [e, if_neg hn]) hr, fun h => by have := hrw h; omega⟩
theorem toDeclS_f (l : List S84) (hl : l.length ≤ 1048576) : Ev (fun k => laws_toDeclS.f k l) (l.map cDe) := by
 have h := copy_all (l := l) (f := cDe) (G := fun k x i => laws_toDeclS.l0 k l x i) (H := fun _ i => some (cDe (rd_T84 l (i : Int)))) (List.replicate l.length z88) (by simp)
  (fun k x i hx hi => by
   simp only [laws_toDeclS.l0, laws_toDecl.f, Option.bind_some]
   rw [if_pos (by omega), if_pos (by omega), if_pos (by omega), w64 (by omega) (by omega), Int.toNat_natCast]
   rfl)
  (fun i hi => by rw [rd_LDecl l i hi]; exact Ev.now _) (fun k x hx => by simp only [laws_toDeclS.l0]; rw [if_neg (by omega)])
 refine Ev.congr (fun k => ?_) h
 simp only [laws_toDeclS.f, Int.toNat_natCast]
 rw [if_pos (by omega), if_pos (by omega)]
theorem eqDeclS_f (l : List S88) (hl : l.length ≤ 1048576) : Ev (fun k => laws_eqDeclS.f k l l) true := by
 have h := all_all (n := l.length) (G := fun k i => laws_eqDeclS.l0 k l l i) (H := fun _ i => laws_eqDecl.f (rd_T88 l (i : Int)).f0 (rd_T88 l (i : Int)).f1 (rd_T88 l (i : Int)).f0 (rd_T88 l (i : Int)).f1)
  (fun k i hi => by simp only [laws_eqDeclS.l0]; rw [if_pos (by omega), if_pos (by omega), if_pos (by omega), w64 (by omega) (by omega)])
  (fun i hi => Ev.congr (fun k => eqDecl_f _) (Ev.now true)) (fun k => by simp only [laws_eqDeclS.l0]; rw [if_neg (by omega)])
 refine Ev.congr (fun k => ?_) h
 simp only [laws_eqDeclS.f]
 rw [if_pos trivial]
theorem rd_LAttr (l : List S87) (i : Nat) (h : i < l.length) : rd_T87 l (i : Int) = l[i] := by simp [rd_T87, List.getD_eq_getElem?_getD, List.getElem?_eq_getElem h]
def cAt (x : S87) : S90 := ⟨x.f0, x.f1, x.f2, x.f3⟩
theorem eqAttr_f (x : S90) : laws_eqAttr.f x.f0 x.f1 x.f2 x.f3 x.f0 x.f1 x.f2 x.f3 = some true := by
 unfold laws_eqAttr.f
 simp
def wAttr (x : S87) : Int := (x.f0.size : Int) + (x.f1.size : Int) + (x.f2.size : Int) + (x.f3.size : Int)
theorem wAttr_n (x : S87) : 0 ≤ wAttr x := by unfold wAttr; omega
theorem szAttr_f (x : S87) (left : Int) (hw : WF87 x) (h0 : 0 ≤ left) (h1 : left ≤ 1048576) : ∃ r, laws_szAttr.f x.f0 x.f1 x.f2 x.f3 left = some r ∧ (0 ≤ r → r + wAttr x = left) := by
 obtain ⟨h_0, h_1, h_2, h_3⟩ := hw
 unfold maxLen at h_0 h_1 h_2 h_3
 unfold laws_szAttr.f wrap64 wAttr
 split
 ·exact ⟨_, rfl, by omega⟩
 split
 ·exact ⟨_, rfl, by omega⟩
 split
 ·exact ⟨_, rfl, by omega⟩
 split
 ·exact ⟨_, rfl, by omega⟩
 exact ⟨_, rfl, fun _ => by omega⟩
theorem szAttrS_f (l : List S87) (hw : l.length ≤ maxLen ∧ ∀ x ∈ l, WF87 x) (left : Int) (h0 : 0 ≤ left) (h1 : left ≤ 1048576) : ∃ r, Ev (fun k => laws_szAttrS.f k l left) r ∧ (0 ≤ r → r + ((l.length : Int) + sumOf wAttr l) = left) := by
 obtain ⟨hl, hw⟩ := hw
 unfold maxLen at hl
 have e : wrap64 (left - (l.length : Int)) = left - (l.length : Int) := w64 (by omega) (by omega)
 by_cases hn : left - (l.length : Int) < 0
 ·exact ⟨-1, Ev.congr (fun k => by simp only [laws_szAttrS.f]; rw [e, if_pos hn]) (Ev.now _), fun h => by omega⟩
 ·obtain ⟨r, hr, hrw⟩ := size_all (l := l) (w := wAttr) (M := 1048576) (G := fun k left i => laws_szAttrS.l0 k l left i) (H := fun _ left i => laws_szAttr.f (rd_T87 l (i : Int)).f0 (rd_T87 l (i : Int)).f1 (rd_T87 l (i : Int)).f2 (rd_T87 l (i : Int)).f3 left) wAttr_n
   (fun k left i h0 hi => by simp only [laws_szAttrS.l0]; rw [if_pos (by omega), if_pos (by omega), w64 (by omega) (by omega)])
   (fun i hi left h0 h1 => by
    obtain ⟨r, a, b⟩ := szAttr_f l[i] left (hw _ (List.getElem_mem hi)) h0 h1
    exact ⟨r, Ev.congr (fun k => by rw [rd_LAttr l i hi]; exact a) (Ev.now r), b⟩)
   (fun k left h0 => by simp only [laws_szAttrS.l0]; rw [if_neg (by omega)]) (left - (l.length : Int)) (by omega) (by omega)
  exact ⟨r, Ev.congr (fun k => by simp only [laws_szAttrS.f]; rw [e, if_neg hn]) hr, fun h => by have := hrw h; omega⟩
theorem toAttrS_f (l : List S87) (hl : l.length ≤ 1048576) : Ev (fun k => laws_toAttrS.f k l) (l.map cAt) := by
 have h := copy_all (l := l) (f := cAt) (G := fun k x i => laws_toAttrS.l0 k l x i) (H := fun _ i => some (cAt (rd_T87 l (i : Int)))) (List.replicate l.length z90) (by simp)
  (fun k x i hx hi => by
   simp only [laws_toAttrS.l0, laws_toAttr.f, Option.bind_some]
   rw [if_pos (by omega), if_pos (by omega), if_pos (by omega), w64 (by omega) (by omega), Int.toNat_natCast]
   rfl)
  (fun i hi => by rw [rd_LAttr l i hi]; exact Ev.now _) (fun k x hx => by simp only [laws_toAttrS.l0]; rw [if_neg (by omega)])
 refine Ev.congr (fun k => ?_) h
 simp only [laws_toAttrS.f, Int.toNat_natCast]
 rw [if_pos (by omega), if_pos (by omega)]
theorem eqAttrS_f (l : List S90) (hl : l.length ≤ 1048576) : Ev (fun k => laws_eqAttrS.f k l l) true := by
 have h := all_all (n := l.length) (G := fun k i => laws_eqAttrS.l0 k l l i) (H := fun _ i => laws_eqAttr.f (rd_T90 l (i : Int)).f0 (rd_T90 l (i : Int)).f1 (rd_T90 l (i : Int)).f2 (rd_T90 l (i : Int)).f3 (rd_T90 l (i : Int)).f0 (rd_T90 l (i : Int)).f1 (rd_T90 l (i : Int)).f2 (rd_T90 l (i : Int)).f3)
  (fun k i hi => by simp only [laws_eqAttrS.l0]; rw [if_pos (by omega), if_pos (by omega), if_pos (by omega), w64 (by omega) (by omega)])
  (fun i hi => Ev.congr (fun k => eqAttr_f _) (Ev.now true)) (fun k => by simp only [laws_eqAttrS.l0]; rw [if_neg (by omega)])
 refine Ev.congr (fun k => ?_) h
 simp only [laws_eqAttrS.f]
 rw [if_pos trivial]
theorem rd_LNode (l : List S26) (i : Nat) (h : i < l.length) : rd_T26 l (i : Int) = l[i] := by simp [rd_T26, List.getD_eq_getElem?_getD, List.getElem?_eq_getElem h]
theorem rd_INode (l : List S34) (i : Nat) (h : i < l.length) : rd_T34 l (i : Int) = l[i] := by simp [rd_T34, List.getD_eq_getElem?_getD, List.getElem?_eq_getElem h]
theorem kidL (x y : S26) (h : y ∈ x.f6) : SizeOf.sizeOf y < SizeOf.sizeOf x := by
 have := List.sizeOf_lt_of_mem h
 cases x
 simp at this ⊢
 omega
theorem kidI (x y : S34) (h : y ∈ x.f6) : SizeOf.sizeOf y < SizeOf.sizeOf x := by
 have := List.sizeOf_lt_of_mem h
 cases x
 simp at this ⊢
 omega
theorem indL {P : S26 → Prop} (h : ∀ x, (∀ y ∈ x.f6, P y) → P x) (x : S26) : P x := by
 have : ∀ n (x : S26), SizeOf.sizeOf x < n → P x := by
  intro n
  induction n with
  | zero => intro x hx; omega
  | succ n ih => intro x hx; exact h x (fun y hy => ih y (by have := kidL x y hy; omega))
 exact this _ x (Nat.lt_succ_self _)
theorem indI {P : S34 → Prop} (h : ∀ x, (∀ y ∈ x.f6, P y) → P x) (x : S34) : P x := by
 have : ∀ n (x : S34), SizeOf.sizeOf x < n → P x := by
  intro n
  induction n with
  | zero => intro x hx; omega
  | succ n ih => intro x hx; exact h x (fun y hy => ih y (by have := kidI x y hy; omega))
 exact this _ x (Nat.lt_succ_self _)
mutual
def wNode : S26 → Int
 | ⟨_, a, b, c, ds, ats, ks, t⟩ => (a.size : Int) + (b.size : Int) + (c.size : Int) + ((ds.length : Int) + sumOf wDecl ds) + ((ats.length : Int) + sumOf wAttr ats) + ((ks.length : Int) + wNodes ks) + (t.size : Int)
def wNodes : List S26 → Int
 | [] => 0
 | x :: xs => wNode x + wNodes xs
end
theorem wNodes_eq (l : List S26) : wNodes l = sumOf wNode l := by
 induction l with
 | nil => rfl
 | cons x l ih => rw [sumOf_cons, ← ih]; rfl
theorem wNode_eq (x : S26) : wNode x = (x.f1.size : Int) + (x.f2.size : Int) + (x.f3.size : Int) + ((x.f4.length : Int) + sumOf wDecl x.f4) + ((x.f5.length : Int) + sumOf wAttr x.f5) + ((x.f6.length : Int) + sumOf wNode x.f6) + (x.f7.size : Int) := by
 cases x
 rw [wNode, wNodes_eq]
theorem sum_nonneg_of {α : Type} {w : α → Int} {l : List α} (h : ∀ x ∈ l, 0 ≤ w x) : 0 ≤ sumOf w l := by
 induction l with
 | nil => exact Int.le_refl _
 | cons z m ihm => rw [sumOf_cons]; have := h z (List.mem_cons_self ..); have := ihm (fun x hx => h x (List.mem_cons_of_mem _ hx)); omega
theorem wNode_n (x : S26) : 0 ≤ wNode x := by
 induction x using indL with
 | h x ih =>
  rw [wNode_eq]
  have := sumOf_nonneg wDecl_n x.f4
  have := sumOf_nonneg wAttr_n x.f5
  have := sum_nonneg_of ih
  omega
theorem wNode_bounds (x : S26) : (x.f4.length : Int) ≤ wNode x ∧ (x.f5.length : Int) ≤ wNode x ∧ (x.f6.length : Int) ≤ wNode x ∧ sumOf wNode x.f6 ≤ wNode x ∧ ∀ y ∈ x.f6, wNode y ≤ wNode x := by
 rw [wNode_eq]
 have := sumOf_nonneg wDecl_n x.f4
 have := sumOf_nonneg wAttr_n x.f5
 have := sumOf_nonneg wNode_n x.f6
 refine ⟨by omega, by omega, by omega, by omega, fun y hy => ?_⟩
 have := sumOf_mem wNode_n hy
 omega
mutual
def cNo : S26 → S34
 | ⟨k, a, b, c, ds, ats, ks, t⟩ => ⟨k, a, b, c, ds.map cDe, ats.map cAt, cNos ks, t⟩
def cNos : List S26 → List S34
 | [] => []
 | x :: xs => cNo x :: cNos xs
end
theorem convNodes_eq (l : List S26) : cNos l = l.map cNo := by
 induction l with
 | nil => rfl
 | cons x l ih => rw [List.map_cons, ← ih]; rfl
theorem convNode_eq (x : S26) : cNo x = ⟨x.f0, x.f1, x.f2, x.f3, x.f4.map cDe, x.f5.map cAt, x.f6.map cNo, x.f7⟩ := by
 cases x
 rw [cNo, convNodes_eq]
mutual
def vNode : S34 → Int
 | ⟨_, _, _, _, ds, ats, ks, _⟩ => (ds.length : Int) + (ats.length : Int) + ((ks.length : Int) + vNodes ks)
def vNodes : List S34 → Int
 | [] => 0
 | x :: xs => vNode x + vNodes xs
end
theorem vNodes_eq (l : List S34) : vNodes l = sumOf vNode l := by
 induction l with
 | nil => rfl
 | cons x l ih => rw [sumOf_cons, ← ih]; rfl
theorem vNode_eq (x : S34) : vNode x = (x.f4.length : Int) + (x.f5.length : Int) + ((x.f6.length : Int) + sumOf vNode x.f6) := by
 cases x
 rw [vNode, vNodes_eq]
theorem vNode_n (x : S34) : 0 ≤ vNode x := by
 induction x using indI with
 | h x ih =>
  rw [vNode_eq]
  have := sum_nonneg_of ih
  omega
theorem vNode_bounds (x : S34) : (x.f4.length : Int) ≤ vNode x ∧ (x.f5.length : Int) ≤ vNode x ∧ (x.f6.length : Int) ≤ vNode x ∧ sumOf vNode x.f6 ≤ vNode x ∧ ∀ y ∈ x.f6, vNode y ≤ vNode x := by
 rw [vNode_eq]
 have := sumOf_nonneg vNode_n x.f6
 refine ⟨by omega, by omega, by omega, by omega, fun y hy => ?_⟩
 have := sumOf_mem vNode_n hy
 omega
theorem sumOf_map_le {α β : Type} {f : α → β} {v : β → Int} {w : α → Int} {l : List α} (h : ∀ x ∈ l, v (f x) ≤ w x) : sumOf v (l.map f) ≤ sumOf w l := by
 induction l with
 | nil => exact Int.le_refl _
 | cons z m ihm => rw [List.map_cons, sumOf_cons, sumOf_cons]; have := h z (List.mem_cons_self ..); have := ihm (fun x hx => h x (List.mem_cons_of_mem _ hx)); omega
theorem vNode_conv (x : S26) : vNode (cNo x) ≤ wNode x := by
 induction x using indL with
 | h x ih =>
  rw [wNode_eq, convNode_eq, vNode_eq]
  have := sumOf_nonneg wDecl_n x.f4
  have := sumOf_nonneg wAttr_n x.f5
  have := sumOf_map_le ih
  simp only [List.length_map]
  omega
theorem szNodeS_of (l : List S26) (hl : l.length ≤ maxLen) (hx : ∀ x ∈ l, ∀ left, 0 ≤ left → left ≤ 1048576 → ∃ r, Ev (fun k => laws_szNode.f k x.f0 x.f1 x.f2 x.f3 x.f4 x.f5 x.f6 x.f7 left) r ∧ (0 ≤ r → r + wNode x = left)) (left : Int) (h0 : 0 ≤ left) (h1 : left ≤ 1048576) :
  ∃ r, Ev (fun k => laws_szNodeS.f k l left) r ∧ (0 ≤ r → r + ((l.length : Int) + sumOf wNode l) = left) := by
 unfold maxLen at hl
 have e : wrap64 (left - (l.length : Int)) = left - (l.length : Int) := w64 (by omega) (by omega)
 by_cases hn : left - (l.length : Int) < 0
 ·exact ⟨-1, Ev.step (fun k => by simp only [laws_szNodeS.f]; rw [e, if_pos hn]) (Ev.now _), fun h => by omega⟩
 ·obtain ⟨r, hr, hrw⟩ := size_all (l := l) (w := wNode) (M := 1048576) (G := fun k left i => laws_szNodeS.l0 k l left i) (H := fun k left i => laws_szNode.f k (rd_T26 l (i : Int)).f0 (rd_T26 l (i : Int)).f1 (rd_T26 l (i : Int)).f2 (rd_T26 l (i : Int)).f3 (rd_T26 l (i : Int)).f4 (rd_T26 l (i : Int)).f5 (rd_T26 l (i : Int)).f6 (rd_T26 l (i : Int)).f7 left) wNode_n
   (fun k left i h0 hi => by simp only [laws_szNodeS.l0]; rw [if_pos (by omega), if_pos (by omega), w64 (by omega) (by omega)]; rfl)
   (fun i hi left h0 h1 => by
    obtain ⟨r, a, b⟩ := hx l[i] (List.getElem_mem hi) left h0 h1
    exact ⟨r, Ev.congr (fun k => by rw [rd_LNode l i hi]) a, b⟩)
   (fun k left h0 => by simp only [laws_szNodeS.l0]; rw [if_neg (by omega)]) (left - (l.length : Int)) (by omega) (by omega)
  exact ⟨r, Ev.step (fun k => by simp only [laws_szNodeS.f]; rw [e, if_neg hn]) hr, fun h => by have := hrw h; omega⟩
theorem szNode_f (x : S26) : WF26 x → ∀ left, 0 ≤ left → left ≤ 1048576 → ∃ r, Ev (fun k => laws_szNode.f k x.f0 x.f1 x.f2 x.f3 x.f4 x.f5 x.f6 x.f7 left) r ∧ (0 ≤ r → r + wNode x = left) := by
 induction x using indL with
 | h x ih =>
  intro hw left h0 h1
  obtain ⟨_, s0, s1, s2, s3, s4, s5, g6, s6, s7⟩ := hw
  unfold maxLen at s1 s2 s3 s7
  have nd := sumOf_nonneg wDecl_n x.f4
  have na := sumOf_nonneg wAttr_n x.f5
  have nk := sumOf_nonneg wNode_n x.f6
  rw [wNode_eq]
  have e1 : wrap64 (left - (x.f1.size : Int)) = left - (x.f1.size : Int) := w64 (by omega) (by omega)
  by_cases n1 : left - (x.f1.size : Int) < 0
  ·exact ⟨-1, Ev.congr (fun k => by simp only [laws_szNode.f, laws_szNode.F]; rw [e1, if_pos n1]) (Ev.now _), fun h => by omega⟩
  have e2 : wrap64 (left - (x.f1.size : Int) - (x.f2.size : Int)) = left - (x.f1.size : Int) - (x.f2.size : Int) := w64 (by omega) (by omega)
  by_cases n2 : left - (x.f1.size : Int) - (x.f2.size : Int) < 0
  ·exact ⟨-1, Ev.congr (fun k => by simp only [laws_szNode.f, laws_szNode.F]; rw [e1, if_neg n1, e2, if_pos n2]) (Ev.now _), fun h => by omega⟩
  have e3 : wrap64 (left - (x.f1.size : Int) - (x.f2.size : Int) - (x.f3.size : Int)) = left - (x.f1.size : Int) - (x.f2.size : Int) - (x.f3.size : Int) := w64 (by omega) (by omega)
  by_cases n3 : left - (x.f1.size : Int) - (x.f2.size : Int) - (x.f3.size : Int) < 0
  ·exact ⟨-1, Ev.congr (fun k => by simp only [laws_szNode.f, laws_szNode.F]; rw [e1, if_neg n1, e2, if_neg n2, e3, if_pos n3]) (Ev.now _), fun h => by omega⟩
  have hd : ∀ (r : Int) (g : Nat → Option Int), Ev (fun k => (laws_szDeclS.f k x.f4 (left - (x.f1.size : Int) - (x.f2.size : Int) - (x.f3.size : Int))).bind fun t108 => (if t108 < 0 then (some (-1)) else ((laws_szAttrS.f k x.f5 t108).bind fun t109 => (if t109 < 0 then (some (-1)) else ((laws_szNodeS.f k x.f6 t109).bind fun t110 => (if t110 < 0 then (some (-1)) else (if (wrap64 (t110 - (x.f7.size : Int))) < 0 then (some (-1)) else (some (wrap64 (t110 - (x.f7.size : Int))))))))))) r → Ev (fun k => laws_szNode.f k x.f0 x.f1 x.f2 x.f3 x.f4 x.f5 x.f6 x.f7 left) r := fun r g h =>
   Ev.congr (fun k => by simp only [laws_szNode.f, laws_szNode.F]; rw [e1, if_neg n1, e2, if_neg n2, e3, if_neg n3]) h
  obtain ⟨r4, hr4, hw4⟩ := szDeclS_f x.f4 s4 (left - (x.f1.size : Int) - (x.f2.size : Int) - (x.f3.size : Int)) (by omega) (by omega)
  by_cases n4 : r4 < 0
  ·exact ⟨-1, hd _ (fun _ => none) (Ev.bind hr4 (Ev.congr (fun k => by rw [if_pos n4]) (Ev.now _))), fun h => by omega⟩
  have w4 := hw4 (by omega)
  obtain ⟨r5, hr5, hw5⟩ := szAttrS_f x.f5 s5 r4 (by omega) (by omega)
  by_cases n5 : r5 < 0
  ·exact ⟨-1, hd _ (fun _ => none) (Ev.bind hr4 (Ev.congr (fun k => by rw [if_neg n4]) (Ev.bind hr5 (Ev.congr (fun k => by rw [if_pos n5]) (Ev.now _))))), fun h => by omega⟩
  have w5 := hw5 (by omega)
  obtain ⟨r6, hr6, hw6⟩ := szNodeS_of x.f6 g6 (fun y hy => ih y hy (s6 y hy)) r5 (by omega) (by omega)
  by_cases n6 : r6 < 0
  ·exact ⟨-1, hd _ (fun _ => none) (Ev.bind hr4 (Ev.congr (fun k => by rw [if_neg n4]) (Ev.bind hr5 (Ev.congr (fun k => by rw [if_neg n5]) (Ev.bind hr6 (Ev.congr (fun k => by rw [if_pos n6]) (Ev.now _))))))), fun h => by omega⟩
  have w6 := hw6 (by omega)
  have e7 : wrap64 (r6 - (x.f7.size : Int)) = r6 - (x.f7.size : Int) := w64 (by omega) (by omega)
  by_cases n7 : r6 - (x.f7.size : Int) < 0
  ·exact ⟨-1, hd _ (fun _ => none) (Ev.bind hr4 (Ev.congr (fun k => by rw [if_neg n4]) (Ev.bind hr5 (Ev.congr (fun k => by rw [if_neg n5]) (Ev.bind hr6 (Ev.congr (fun k => by rw [if_neg n6, e7, if_pos n7]) (Ev.now _))))))), fun h => by omega⟩
  ·exact ⟨r6 - (x.f7.size : Int), hd _ (fun _ => none) (Ev.bind hr4 (Ev.congr (fun k => by rw [if_neg n4]) (Ev.bind hr5 (Ev.congr (fun k => by rw [if_neg n5]) (Ev.bind hr6 (Ev.congr (fun k => by rw [if_neg n6, e7, if_neg n7]) (Ev.now _))))))), fun h => by omega⟩
theorem toNodeS_of (l : List S26) (hl : l.length ≤ 1048576) (hx : ∀ x ∈ l, Ev (fun k => laws_toNode.f k x.f0 x.f1 x.f2 x.f3 x.f4 x.f5 x.f6 x.f7) (x.f0, x.f1, x.f2, x.f3, x.f4.map cDe, x.f5.map cAt, x.f6.map cNo, x.f7)) : Ev (fun k => laws_toNodeS.f k l) (l.map cNo) := by
 have h := copy_all (l := l) (f := cNo) (G := fun k x i => laws_toNodeS.l0 k l x i) (H := fun k i => (laws_toNode.f k (rd_T26 l (i : Int)).f0 (rd_T26 l (i : Int)).f1 (rd_T26 l (i : Int)).f2 (rd_T26 l (i : Int)).f3 (rd_T26 l (i : Int)).f4 (rd_T26 l (i : Int)).f5 (rd_T26 l (i : Int)).f6 (rd_T26 l (i : Int)).f7).bind fun q => some (⟨q.1, q.2.1, q.2.2.1, q.2.2.2.1, q.2.2.2.2.1, q.2.2.2.2.2.1, q.2.2.2.2.2.2.1, q.2.2.2.2.2.2.2⟩ : S34)) (List.replicate l.length z34) (by simp)
  (fun k x i hx hi => by
   simp only [laws_toNodeS.l0]
   rw [if_pos (by omega), if_pos (by omega), w64 (by omega) (by omega), Int.toNat_natCast, Option.bind_assoc]
   simp only [Option.bind_some]
   simp only [show (i : Int) < (x.length : Int) from by omega, if_true]
   rfl)
  (fun i hi => by
   rw [rd_LNode l i hi]
   refine Ev.bind (hx l[i] (List.getElem_mem hi)) ?_
   rw [convNode_eq]
   exact Ev.now _) (fun k x hx => by simp only [laws_toNodeS.l0]; rw [if_neg (by omega)])
 refine Ev.step (fun k => ?_) h
 simp only [laws_toNodeS.f, Int.toNat_natCast]
 rw [if_pos (by omega), if_pos (by omega)]
theorem toNode_f (x : S26) : wNode x ≤ 1048576 → Ev (fun k => laws_toNode.f k x.f0 x.f1 x.f2 x.f3 x.f4 x.f5 x.f6 x.f7) (x.f0, x.f1, x.f2, x.f3, x.f4.map cDe, x.f5.map cAt, x.f6.map cNo, x.f7) := by
 induction x using indL with
 | h x ih =>
  intro hw
  obtain ⟨b4, b5, b6, _, bk⟩ := wNode_bounds x
  refine Ev.congr (g := fun k => laws_toNode.f k x.f0 x.f1 x.f2 x.f3 x.f4 x.f5 x.f6 x.f7) (f := fun k => (laws_toDeclS.f k x.f4).bind fun d => (laws_toAttrS.f k x.f5).bind fun a => (laws_toNodeS.f k x.f6).bind fun n => some (x.f0, x.f1, x.f2, x.f3, d, a, n, x.f7)) (fun k => rfl) ?_
  refine Ev.bind (toDeclS_f x.f4 (by omega)) (Ev.bind (toAttrS_f x.f5 (by omega)) (Ev.bind (toNodeS_of x.f6 (by omega) (fun y hy => ih y hy (by have := bk y hy; omega))) (Ev.now _)))
theorem eqNodeS_of (l : List S34) (hl : l.length ≤ 1048576) (hx : ∀ x ∈ l, Ev (fun k => laws_eqNode.f k x.f0 x.f1 x.f2 x.f3 x.f4 x.f5 x.f6 x.f7 x.f0 x.f1 x.f2 x.f3 x.f4 x.f5 x.f6 x.f7) true) : Ev (fun k => laws_eqNodeS.f k l l) true := by
 have h := all_all (n := l.length) (G := fun k i => laws_eqNodeS.l0 k l l i) (H := fun k i => laws_eqNode.f k (rd_T34 l (i : Int)).f0 (rd_T34 l (i : Int)).f1 (rd_T34 l (i : Int)).f2 (rd_T34 l (i : Int)).f3 (rd_T34 l (i : Int)).f4 (rd_T34 l (i : Int)).f5 (rd_T34 l (i : Int)).f6 (rd_T34 l (i : Int)).f7 (rd_T34 l (i : Int)).f0 (rd_T34 l (i : Int)).f1 (rd_T34 l (i : Int)).f2 (rd_T34 l (i : Int)).f3 (rd_T34 l (i : Int)).f4 (rd_T34 l (i : Int)).f5 (rd_T34 l (i : Int)).f6 (rd_T34 l (i : Int)).f7)
  (fun k i hi => by simp only [laws_eqNodeS.l0]; rw [if_pos (by omega), if_pos (by omega), if_pos (by omega), w64 (by omega) (by omega)]; rfl)
  (fun i hi => by rw [rd_INode l i hi]; exact hx l[i] (List.getElem_mem hi)) (fun k => by simp only [laws_eqNodeS.l0]; rw [if_neg (by omega)])
 refine Ev.step (fun k => ?_) h
 simp only [laws_eqNodeS.f]
 rw [if_pos trivial]
theorem eqNode_f (x : S34) : vNode x ≤ 1048576 → Ev (fun k => laws_eqNode.f k x.f0 x.f1 x.f2 x.f3 x.f4 x.f5 x.f6 x.f7 x.f0 x.f1 x.f2 x.f3 x.f4 x.f5 x.f6 x.f7) true := by
 induction x using indI with
 | h x ih =>
  intro hw
  obtain ⟨b4, b5, b6, _, bk⟩ := vNode_bounds x
  refine Ev.congr (f := fun k => (laws_eqDeclS.f k x.f4 x.f4).bind fun t => (if t = true then ((laws_eqAttrS.f k x.f5 x.f5).bind fun t => (if t = true then ((laws_eqNodeS.f k x.f6 x.f6).bind fun t => (if t = true then some true else some false)) else (some false))) else (some false))) (fun k => by simp [laws_eqNode.f, laws_eqNode.F]) ?_
  refine Ev.bind (eqDeclS_f x.f4 (by omega)) (Ev.congr (fun k => by rw [if_pos rfl]) (Ev.bind (eqAttrS_f x.f5 (by omega)) (Ev.congr (fun k => by rw [if_pos rfl]) (Ev.bind (eqNodeS_of x.f6 (by omega) (fun y hy => ih y hy (by have := bk y hy; omega))) (Ev.congr (fun k => by rw [if_pos rfl]) (Ev.now _))))))
theorem strOfNums_size (xs : List Int) : (strOfNums xs).size = xs.length := by
 unfold strOfNums
 simp [ByteArray.size]
theorem markText_l0 (n : Nat) : ∀ (i : Int) (acc : ByteArray), 0 ≤ i → i.toNat ≤ n → i ≤ 1152921504606846976 → (acc.size : Int) + i ≤ 2305843009213693952 → ∃ t, Ev (fun k => laws_markText.l0 k i acc) t := by
 induction n using Nat.strongRecOn with
 | _ n ih =>
  intro i acc h0 hn hi ha
  by_cases hp : i > 0
  ·have e1 : Int.tdiv i 10 = i / 10 := Int.tdiv_eq_ediv_of_nonneg h0
   have hs : (strOfNums [wrap64 (48 + (Int.tmod i 10)) % 256]).size = 1 := by rw [strOfNums_size]; rfl
   have hap : ((strOfNums [wrap64 (48 + (Int.tmod i 10)) % 256]) ++ acc).size = 1 + acc.size := by rw [ByteArray.size_append, hs]
   obtain ⟨t, ht⟩ := ih (i / 10).toNat (by omega) (i / 10) ((strOfNums [wrap64 (48 + (Int.tmod i 10)) % 256]) ++ acc) (by omega) (by omega) (by omega) (by rw [hap]; omega)
   refine ⟨t, Ev.step (fun k => ?_) ht⟩
   simp only [laws_markText.l0, Option.bind_some]
   rw [if_pos hp, if_pos (by rw [hs]; omega), e1, w64 (by omega) (by omega)]
  ·refine ⟨(⟨#[109]⟩ : ByteArray) ++ acc, Ev.step (fun k => ?_) (Ev.now _)⟩
   simp only [laws_markText.l0]
   rw [if_neg hp, if_pos (by omega)]
theorem markText_ex (i : Int) (hi : i ≤ 1152921504606846976) : ∃ t, Ev (fun k => laws_markText.f k i) t := by
 by_cases h : i ≤ 0
 ·exact ⟨_, Ev.congr (fun k => by simp only [laws_markText.f]; rw [if_pos h]) (Ev.now _)⟩
 ·obtain ⟨t, ht⟩ := markText_l0 i.toNat i ⟨#[]⟩ (by omega) (by omega) hi (by show ((0 : Nat) : Int) + i ≤ _; omega)
  exact ⟨t, Ev.congr (fun k => by simp only [laws_markText.f]; rw [if_neg h]) ht⟩
open Classical in
/-- What markText writes of a number. -/
noncomputable def mT (i : Int) : ByteArray := if h : ∃ t, Ev (fun k => laws_markText.f k i) t then h.choose else ⟨#[]⟩
theorem mT_ev (i : Int) (hi : i ≤ 1152921504606846976) : Ev (fun k => laws_markText.f k i) (mT i) := by
 have h := markText_ex i hi
 unfold mT
 rw [dif_pos h]
 exact h.choose_spec
theorem marks_from {α : Type} {n : Nat} {c : Int} (hc : 0 ≤ c) {G : Nat → List α → Int → Int → Option (Int × List α)}
  (hs : ∀ (x : List α) (a : Int) (i : Nat), x.length = n → i < n → 0 ≤ a → a ≤ 1099511627776 → ∃ y, y.length = n ∧ ∀ q, Ev (fun k => G k y (a + c) ((i : Int) + 1)) q → Ev (fun k => G k x a (i : Int)) q)
  (he : ∀ k x a, x.length = n → G (k + 1) x a (n : Int) = some (a, x)) (d : Nat) :
  ∀ (i : Nat) (x : List α) (a : Int), x.length = n → i ≤ n → n - i = d → 0 ≤ a → a + c * (d : Int) ≤ 1099511627776 → ∃ y, y.length = n ∧ Ev (fun k => G k x a (i : Int)) (a + c * (d : Int), y) := by
 induction d with
 | zero =>
  intro i x a hx hi hd h0 h1
  have e : i = n := by omega
  subst e
  exact ⟨x, hx, Ev.step (f := fun _ => some (a + c * ((0 : Nat) : Int), x)) (fun k => by rw [he k x a hx]; simp) (Ev.now _)⟩
 | succ d ih =>
  intro i x a hx hi hd h0 h1
  have e1 : c * ((d + 1 : Nat) : Int) = c * (d : Int) + c := by rw [Int.natCast_add, Int.mul_add]; simp
  have h2 : 0 ≤ c * (d : Int) := Int.mul_nonneg hc (by omega)
  obtain ⟨y, hy, hq⟩ := hs x a i hx (by omega) h0 (by omega)
  obtain ⟨z, hz, hr⟩ := ih (i + 1) y (a + c) hy (by omega) (by omega) (by omega) (by omega)
  refine ⟨z, hz, hq _ ?_⟩
  have e2 : a + c + c * (d : Int) = a + c * ((d + 1 : Nat) : Int) := by omega
  rw [← e2]
  simpa using hr
theorem rdset_Decl (x : List S88) (i : Nat) (h : i < x.length) (v : S88) : rd_T88 (x.set i v) (i : Int) = v := by simp [rd_T88, List.getD_eq_getElem?_getD, h]
theorem mkDecl_step (x : List S88) (a : Int) (i : Nat) (h : i < x.length) (hx : x.length ≤ 4194304) (h0 : 0 ≤ a) (h1 : a ≤ 1099511627776) (k : Nat) : laws_markDeclS.l0 (k + 1) x a (i : Int) = (laws_markText.f k (a)).bind fun t0 => (laws_markText.f k (a + 1)).bind fun t1 => laws_markDeclS.l0 k (x.set i ⟨t0, t1⟩) (a + 1 + 1) ((i : Int) + 1) := by
 have w1 : wrap64 (a + 1) = a + 1 := w64 (by omega) (by omega)
 have w2 : wrap64 (a + 1 + 1) = a + 1 + 1 := w64 (by omega) (by omega)
 have wi : wrap64 ((i : Int) + 1) = (i : Int) + 1 := w64 (by omega) (by omega)
 have hi0 : (0 : Int) ≤ (i : Int) := by omega
 simp only [laws_markDeclS.l0]
 rw [if_pos (by omega)]
 simp only [Option.bind_some, w1, w2, wi, if_pos hi0, Int.toNat_natCast, List.set_set, rdset_Decl x i h]
/-- The list behind marks from a on. -/
noncomputable def mDecl (a : Int) (n : Nat) : List S88 := (List.range n).map fun (i : Nat) => ⟨mT (a + 2 * (i : Int)), mT (a + 2 * (i : Int) + 1)⟩
theorem mDecl_get (a : Int) (n i : Nat) (h : i < n) : (mDecl a n)[i]? = some ⟨mT (a + 2 * (i : Int)), mT (a + 2 * (i : Int) + 1)⟩ := by simp [mDecl, h]
theorem mDecl_length (a : Int) (n : Nat) : (mDecl a n).length = n := by simp [mDecl]
theorem rdopt_Decl (l : List S88) (i : Nat) (x : S88) (h : l[i]? = some x) : rd_T88 l (i : Int) = x := by simp [rd_T88, List.getD_eq_getElem?_getD, h]
theorem markDecl_l0 (a : Int) (n : Nat) (hn : n ≤ 4194304) (ha : 0 ≤ a ∧ a ≤ 549755813888) (d : Nat) : ∀ (i : Nat) (x : List S88), x.length = n → i ≤ n → n - i = d → (∀ j, j < i → x[j]? = (mDecl a n)[j]?) →
  Ev (fun k => laws_markDeclS.l0 k x (a + 2 * (i : Int)) (i : Int)) (a + 2 * (n : Int), mDecl a n) := by
 induction d with
 | zero =>
  intro i x hx hi hd hj
  have e : i = n := by omega
  subst e
  have ex : x = mDecl a i := List.ext_getElem? (fun j => by
   by_cases hlt : j < i
   ·exact hj j hlt
   ·rw [List.getElem?_eq_none (by omega), List.getElem?_eq_none (by rw [mDecl_length]; omega)])
  refine Ev.step (f := fun _ => some (a + 2 * (i : Int), x)) (fun k => ?_) (by rw [ex]; exact Ev.now _)
  simp only [laws_markDeclS.l0]
  rw [if_neg (by omega)]
 | succ d ih =>
  intro i x hx hi hd hj
  have hlt : i < n := by omega
  refine Ev.step (mkDecl_step x (a + 2 * (i : Int)) i (by omega) (by omega) (by omega) (by omega)) (Ev.bind (mT_ev _ (by omega)) (Ev.bind (mT_ev _ (by omega)) ?_))
  have e1 : a + 2 * (i : Int) + 1 + 1 = a + 2 * ((i + 1 : Nat) : Int) := by omega
  have e2 : (i : Int) + 1 = ((i + 1 : Nat) : Int) := by omega
  rw [e1, e2]
  refine ih (i + 1) _ (by rw [List.length_set]; exact hx) (by omega) (by omega) (fun j hj2 => ?_)
  by_cases e : j = i
  ·subst e
   rw [List.getElem?_set_self (by omega), mDecl_get a n j hlt]
  ·rw [List.getElem?_set_ne (by omega)]
   exact hj j (by omega)
theorem markDecl_f (a : Int) (x : List S88) (hn : x.length ≤ 4194304) (ha : 0 ≤ a ∧ a ≤ 549755813888) : Ev (fun k => laws_markDeclS.f k x a) (a + 2 * (x.length : Int), mDecl a x.length) := by
 have h := markDecl_l0 a x.length hn ha x.length 0 x rfl (by omega) (by omega) (fun j hj => by omega)
 refine Ev.congr (fun k => ?_) h
 simp [laws_markDeclS.f]
theorem rdset_Attr (x : List S90) (i : Nat) (h : i < x.length) (v : S90) : rd_T90 (x.set i v) (i : Int) = v := by simp [rd_T90, List.getD_eq_getElem?_getD, h]
theorem mkAttr_step (x : List S90) (a : Int) (i : Nat) (h : i < x.length) (hx : x.length ≤ 4194304) (h0 : 0 ≤ a) (h1 : a ≤ 1099511627776) (k : Nat) : laws_markAttrS.l0 (k + 1) x a (i : Int) = (laws_markText.f k (a)).bind fun t0 => (laws_markText.f k (a + 1)).bind fun t1 => (laws_markText.f k (a + 1 + 1)).bind fun t2 => (laws_markText.f k (a + 1 + 1 + 1)).bind fun t3 => laws_markAttrS.l0 k (x.set i ⟨t0, t1, t2, t3⟩) (a + 1 + 1 + 1 + 1) ((i : Int) + 1) := by
 have w1 : wrap64 (a + 1) = a + 1 := w64 (by omega) (by omega)
 have w2 : wrap64 (a + 1 + 1) = a + 1 + 1 := w64 (by omega) (by omega)
 have w3 : wrap64 (a + 1 + 1 + 1) = a + 1 + 1 + 1 := w64 (by omega) (by omega)
 have w4 : wrap64 (a + 1 + 1 + 1 + 1) = a + 1 + 1 + 1 + 1 := w64 (by omega) (by omega)
 have wi : wrap64 ((i : Int) + 1) = (i : Int) + 1 := w64 (by omega) (by omega)
 have hi0 : (0 : Int) ≤ (i : Int) := by omega
 simp only [laws_markAttrS.l0]
 rw [if_pos (by omega)]
 simp only [Option.bind_some, w1, w2, w3, w4, wi, if_pos hi0, Int.toNat_natCast, List.set_set, rdset_Attr x i h]
/-- The list behind marks from a on. -/
noncomputable def mAttr (a : Int) (n : Nat) : List S90 := (List.range n).map fun (i : Nat) => ⟨mT (a + 4 * (i : Int)), mT (a + 4 * (i : Int) + 1), mT (a + 4 * (i : Int) + 1 + 1), mT (a + 4 * (i : Int) + 1 + 1 + 1)⟩
theorem mAttr_get (a : Int) (n i : Nat) (h : i < n) : (mAttr a n)[i]? = some ⟨mT (a + 4 * (i : Int)), mT (a + 4 * (i : Int) + 1), mT (a + 4 * (i : Int) + 1 + 1), mT (a + 4 * (i : Int) + 1 + 1 + 1)⟩ := by simp [mAttr, h]
theorem mAttr_length (a : Int) (n : Nat) : (mAttr a n).length = n := by simp [mAttr]
theorem rdopt_Attr (l : List S90) (i : Nat) (x : S90) (h : l[i]? = some x) : rd_T90 l (i : Int) = x := by simp [rd_T90, List.getD_eq_getElem?_getD, h]
theorem markAttr_l0 (a : Int) (n : Nat) (hn : n ≤ 4194304) (ha : 0 ≤ a ∧ a ≤ 549755813888) (d : Nat) : ∀ (i : Nat) (x : List S90), x.length = n → i ≤ n → n - i = d → (∀ j, j < i → x[j]? = (mAttr a n)[j]?) →
  Ev (fun k => laws_markAttrS.l0 k x (a + 4 * (i : Int)) (i : Int)) (a + 4 * (n : Int), mAttr a n) := by
 induction d with
 | zero =>
  intro i x hx hi hd hj
  have e : i = n := by omega
  subst e
  have ex : x = mAttr a i := List.ext_getElem? (fun j => by
   by_cases hlt : j < i
   ·exact hj j hlt
   ·rw [List.getElem?_eq_none (by omega), List.getElem?_eq_none (by rw [mAttr_length]; omega)])
  refine Ev.step (f := fun _ => some (a + 4 * (i : Int), x)) (fun k => ?_) (by rw [ex]; exact Ev.now _)
  simp only [laws_markAttrS.l0]
  rw [if_neg (by omega)]
 | succ d ih =>
  intro i x hx hi hd hj
  have hlt : i < n := by omega
  refine Ev.step (mkAttr_step x (a + 4 * (i : Int)) i (by omega) (by omega) (by omega) (by omega)) (Ev.bind (mT_ev _ (by omega)) (Ev.bind (mT_ev _ (by omega)) (Ev.bind (mT_ev _ (by omega)) (Ev.bind (mT_ev _ (by omega)) ?_))))
  have e1 : a + 4 * (i : Int) + 1 + 1 + 1 + 1 = a + 4 * ((i + 1 : Nat) : Int) := by omega
  have e2 : (i : Int) + 1 = ((i + 1 : Nat) : Int) := by omega
  rw [e1, e2]
  refine ih (i + 1) _ (by rw [List.length_set]; exact hx) (by omega) (by omega) (fun j hj2 => ?_)
  by_cases e : j = i
  ·subst e
   rw [List.getElem?_set_self (by omega), mAttr_get a n j hlt]
  ·rw [List.getElem?_set_ne (by omega)]
   exact hj j (by omega)
theorem markAttr_f (a : Int) (x : List S90) (hn : x.length ≤ 4194304) (ha : 0 ≤ a ∧ a ≤ 549755813888) : Ev (fun k => laws_markAttrS.f k x a) (a + 4 * (x.length : Int), mAttr a x.length) := by
 have h := markAttr_l0 a x.length hn ha x.length 0 x rfl (by omega) (by omega) (fun j hj => by omega)
 refine Ev.congr (fun k => ?_) h
 simp [laws_markAttrS.f]
theorem heldDecl_l0 (a : Int) (n : Nat) (hn : n ≤ 4194304) (ha : 0 ≤ a ∧ a ≤ 549755813888) (d : Nat) : ∀ i : Nat, i ≤ n → n - i = d → Ev (fun k => laws_heldDeclS.l0 k (mDecl a n) (a + 2 * (i : Int)) (i : Int)) (a + 2 * (n : Int)) := by
 have hlen := mDecl_length a n
 induction d with
 | zero =>
  intro i hi hd
  have e : i = n := by omega
  subst e
  refine Ev.step (fun k => ?_) (Ev.now _)
  simp only [laws_heldDeclS.l0]
  rw [if_neg (by omega)]
 | succ d ih =>
  intro i hi hd
  have hlt : i < n := by omega
  have c0 : (0 : Int) ≤ (i : Int) := by omega
  have c1 : (i : Int) < ((mDecl a n).length : Int) := by omega
  have i1 : i + 1 ≤ n := by omega
  have i2 : n - (i + 1) = d := by omega
  have q0 : a + 2 * (i : Int) ≤ 1152921504606846976 := by omega
  have q1 : a + 2 * (i : Int) + 1 ≤ 1152921504606846976 := by omega
  have w1 : wrap64 (a + 2 * (i : Int) + 1) = a + 2 * (i : Int) + 1 := w64 (by omega) (by omega)
  have w2 : wrap64 (a + 2 * (i : Int) + 1 + 1) = a + 2 * (i : Int) + 1 + 1 := w64 (by omega) (by omega)
  have wi : wrap64 ((i : Int) + 1) = ((i + 1 : Nat) : Int) := by rw [w64 (by omega) (by omega)]; omega
  have e1 : a + 2 * (i : Int) + 1 + 1 = a + 2 * ((i + 1 : Nat) : Int) := by omega
  have hrd := rdopt_Decl (mDecl a n) i _ (mDecl_get a n i hlt)
  refine Ev.step (fun k => by simp only [laws_heldDeclS.l0]; rw [if_pos c1, if_pos c0, w1, w2, wi, hrd]) (Ev.bind (mT_ev (a + 2 * (i : Int)) q0) ?_)
  refine Ev.congr (fun k => by rw [if_pos rfl]) (Ev.bind (mT_ev (a + 2 * (i : Int) + 1) q1) ?_)
  exact Ev.congr (fun k => by rw [if_pos rfl, e1]) (ih (i + 1) i1 i2)
theorem heldDecl_f (a : Int) (n : Nat) (hn : n ≤ 4194304) (ha : 0 ≤ a ∧ a ≤ 549755813888) : Ev (fun k => laws_heldDeclS.f k (mDecl a n) a) (a + 2 * (n : Int)) := by
 refine Ev.congr (fun k => ?_) (heldDecl_l0 a n hn ha n 0 (by omega) (by omega))
 simp [laws_heldDeclS.f]
theorem heldAttr_l0 (a : Int) (n : Nat) (hn : n ≤ 4194304) (ha : 0 ≤ a ∧ a ≤ 549755813888) (d : Nat) : ∀ i : Nat, i ≤ n → n - i = d → Ev (fun k => laws_heldAttrS.l0 k (mAttr a n) (a + 4 * (i : Int)) (i : Int)) (a + 4 * (n : Int)) := by
 have hlen := mAttr_length a n
 induction d with
 | zero =>
  intro i hi hd
  have e : i = n := by omega
  subst e
  refine Ev.step (fun k => ?_) (Ev.now _)
  simp only [laws_heldAttrS.l0]
  rw [if_neg (by omega)]
 | succ d ih =>
  intro i hi hd
  have hlt : i < n := by omega
  have c0 : (0 : Int) ≤ (i : Int) := by omega
  have c1 : (i : Int) < ((mAttr a n).length : Int) := by omega
  have i1 : i + 1 ≤ n := by omega
  have i2 : n - (i + 1) = d := by omega
  have q0 : a + 4 * (i : Int) ≤ 1152921504606846976 := by omega
  have q1 : a + 4 * (i : Int) + 1 ≤ 1152921504606846976 := by omega
  have q2 : a + 4 * (i : Int) + 1 + 1 ≤ 1152921504606846976 := by omega
  have q3 : a + 4 * (i : Int) + 1 + 1 + 1 ≤ 1152921504606846976 := by omega
  have w1 : wrap64 (a + 4 * (i : Int) + 1) = a + 4 * (i : Int) + 1 := w64 (by omega) (by omega)
  have w2 : wrap64 (a + 4 * (i : Int) + 1 + 1) = a + 4 * (i : Int) + 1 + 1 := w64 (by omega) (by omega)
  have w3 : wrap64 (a + 4 * (i : Int) + 1 + 1 + 1) = a + 4 * (i : Int) + 1 + 1 + 1 := w64 (by omega) (by omega)
  have w4 : wrap64 (a + 4 * (i : Int) + 1 + 1 + 1 + 1) = a + 4 * (i : Int) + 1 + 1 + 1 + 1 := w64 (by omega) (by omega)
  have wi : wrap64 ((i : Int) + 1) = ((i + 1 : Nat) : Int) := by rw [w64 (by omega) (by omega)]; omega
  have e1 : a + 4 * (i : Int) + 1 + 1 + 1 + 1 = a + 4 * ((i + 1 : Nat) : Int) := by omega
  have hrd := rdopt_Attr (mAttr a n) i _ (mAttr_get a n i hlt)
  refine Ev.step (fun k => by simp only [laws_heldAttrS.l0]; rw [if_pos c1, if_pos c0, w1, w2, w3, w4, wi, hrd]) (Ev.bind (mT_ev (a + 4 * (i : Int)) q0) ?_)
  refine Ev.congr (fun k => by rw [if_pos rfl]) (Ev.bind (mT_ev (a + 4 * (i : Int) + 1) q1) ?_)
  refine Ev.congr (fun k => by rw [if_pos rfl]) (Ev.bind (mT_ev (a + 4 * (i : Int) + 1 + 1) q2) ?_)
  refine Ev.congr (fun k => by rw [if_pos rfl]) (Ev.bind (mT_ev (a + 4 * (i : Int) + 1 + 1 + 1) q3) ?_)
  exact Ev.congr (fun k => by rw [if_pos rfl, e1]) (ih (i + 1) i1 i2)
theorem heldAttr_f (a : Int) (n : Nat) (hn : n ≤ 4194304) (ha : 0 ≤ a ∧ a ≤ 549755813888) : Ev (fun k => laws_heldAttrS.f k (mAttr a n) a) (a + 4 * (n : Int)) := by
 refine Ev.congr (fun k => ?_) (heldAttr_l0 a n hn ha n 0 (by omega) (by omega))
 simp [laws_heldAttrS.f]
theorem markHeld_go (l : List S34) (hl : ∀ y ∈ l, ∀ a, 0 ≤ a → a + 8 * (1 + vNode y) ≤ 549755813888 → ∃ r z, Ev (fun k => laws_markNodeS.node (laws_markNodeS.f k) k y a) (r, z) ∧ a ≤ r ∧ r ≤ a + 8 * (1 + vNode y) ∧
   ∀ (xs : List S34) (i : Nat), xs.length ≤ 4194304 → xs[i]? = some z → ∀ q, Ev (fun k => laws_heldNodeS.l0 k xs r ((i + 1 : Nat) : Int)) q → Ev (fun k => laws_heldNodeS.l0 k xs a (i : Int)) q) : ∀ a, 0 ≤ a → a + 8 * ((l.length : Int) + sumOf vNode l) ≤ 549755813888 →
  ∃ r z, Ev (fun k => laws_markNodeS.go (laws_markNodeS.f k) k l a) (r, z) ∧ a ≤ r ∧ r ≤ a + 8 * ((l.length : Int) + sumOf vNode l) ∧ z.length = l.length ∧
   ∀ pre : List S34, pre.length + l.length ≤ 4194304 → Ev (fun k => laws_heldNodeS.l0 k (pre ++ z) a (pre.length : Int)) r := by
 induction l with
 | nil =>
  intro a h0 h1
  refine ⟨a, [], Ev.congr (fun k => by simp only [laws_markNodeS.go]) (Ev.now _), Int.le_refl _, by simp [sumOf_nil], rfl, fun pre hp => Ev.step (fun k => ?_) (Ev.now a)⟩
  simp only [laws_heldNodeS.l0, List.append_nil]
  rw [if_neg (by omega)]
 | cons x l ih =>
  intro a h0 h1
  rw [sumOf_cons, List.length_cons] at h1 ⊢
  have hv := vNode_n x
  have hs := sumOf_nonneg vNode_n l
  obtain ⟨r, z, hr, b1, b2, hz⟩ := hl x (List.mem_cons_self ..) a h0 (by omega)
  obtain ⟨q, y, hq, b3, b4, hy, hh⟩ := ih (fun y hy => hl y (List.mem_cons_of_mem _ hy)) r (by omega) (by omega)
  refine ⟨q, z :: y, Ev.congr (fun k => by simp only [laws_markNodeS.go]; rfl) (Ev.bind hr ?_), by omega, by omega, by rw [List.length_cons, hy], fun pre hp => ?_⟩
  ·refine Ev.bind hq ?_
   exact Ev.now _
  ·refine hz (pre ++ z :: y) pre.length (by rw [List.length_append, List.length_cons, hy]; omega) (by simp) q ?_
   have h2 := hh (pre ++ [z]) (by rw [List.length_append, List.length_singleton]; omega)
   rw [List.append_assoc, List.singleton_append, List.length_append, List.length_singleton] at h2
   exact h2
theorem markHeldS_of (l : List S34) (h62 : l.length ≤ 1048576) (hl : ∀ y ∈ l, ∀ a, 0 ≤ a → a + 8 * (1 + vNode y) ≤ 549755813888 → ∃ r z, Ev (fun k => laws_markNodeS.node (laws_markNodeS.f k) k y a) (r, z) ∧ a ≤ r ∧ r ≤ a + 8 * (1 + vNode y) ∧
   ∀ (xs : List S34) (i : Nat), xs.length ≤ 4194304 → xs[i]? = some z → ∀ q, Ev (fun k => laws_heldNodeS.l0 k xs r ((i + 1 : Nat) : Int)) q → Ev (fun k => laws_heldNodeS.l0 k xs a (i : Int)) q) (a : Int) (h0 : 0 ≤ a) (h1 : a + 8 * ((l.length : Int) + sumOf vNode l) ≤ 549755813888) :
  ∃ r z, Ev (fun k => laws_markNodeS.f k l a) (r, z) ∧ a ≤ r ∧ r ≤ a + 8 * ((l.length : Int) + sumOf vNode l) ∧ Ev (fun k => laws_heldNodeS.f k z a) r := by
 obtain ⟨r, z, hr, b1, b2, hz, hh⟩ := markHeld_go l hl a h0 h1
 refine ⟨r, z, Ev.step (fun k => by simp only [laws_markNodeS.f]; rw [if_pos (by omega)]) hr, b1, b2, Ev.step (fun k => by simp only [laws_heldNodeS.f]; rfl) ?_⟩
 exact hh [] (by rw [List.length_nil]; omega)
theorem markHeld_node (x : S34) : vNode x ≤ 1048576 → ∀ a, 0 ≤ a → a + 8 * (1 + vNode x) ≤ 549755813888 → ∃ r z, Ev (fun k => laws_markNodeS.node (laws_markNodeS.f k) k x a) (r, z) ∧ a ≤ r ∧ r ≤ a + 8 * (1 + vNode x) ∧
   ∀ (xs : List S34) (i : Nat), xs.length ≤ 4194304 → xs[i]? = some z → ∀ q, Ev (fun k => laws_heldNodeS.l0 k xs r ((i + 1 : Nat) : Int)) q → Ev (fun k => laws_heldNodeS.l0 k xs a (i : Int)) q := by
 induction x using indI with
 | h x ih =>
  intro hv a h0 h1
  obtain ⟨b4, b5, b6, bs, bk⟩ := vNode_bounds x
  have e := vNode_eq x
  have hs := sumOf_nonneg vNode_n x.f6
  have hd := markDecl_f (a + 1 + 1 + 1 + 1) x.f4 (by omega) (by omega)
  have ht := markAttr_f (a + 1 + 1 + 1 + 1 + 2 * (x.f4.length : Int)) x.f5 (by omega) (by omega)
  have gd := heldDecl_f (a + 1 + 1 + 1 + 1) x.f4.length (by omega) (by omega)
  have gt := heldAttr_f (a + 1 + 1 + 1 + 1 + 2 * (x.f4.length : Int)) x.f5.length (by omega) (by omega)
  obtain ⟨r, z, hr, c1, c2, hh⟩ := markHeldS_of x.f6 (by omega) (fun y hy => ih y hy (by have := bk y hy; omega)) (a + 1 + 1 + 1 + 1 + 2 * (x.f4.length : Int) + 4 * (x.f5.length : Int)) (by omega) (by omega)
  have m1 := mT_ev (a + 1) (by omega)
  have m2 := mT_ev (a + 1 + 1) (by omega)
  have m3 := mT_ev (a + 1 + 1 + 1) (by omega)
  have m7 := mT_ev r (by omega)
  have n1 : ¬ a + 1 + 1 + 1 + 1 + 2 * (x.f4.length : Int) < 0 := by omega
  have n2 : ¬ a + 1 + 1 + 1 + 1 + 2 * (x.f4.length : Int) + 4 * (x.f5.length : Int) < 0 := by omega
  have n3 : ¬ r < 0 := by omega
  have r1 : a ≤ r + 1 := by omega
  have r2 : r + 1 ≤ a + 8 * (1 + vNode x) := by omega
  have w1 : wrap64 (a + 1) = a + 1 := w64 (by omega) (by omega)
  have w2 : wrap64 (a + 1 + 1) = a + 1 + 1 := by clear w1; exact w64 (by omega) (by omega)
  have w3 : wrap64 (a + 1 + 1 + 1) = a + 1 + 1 + 1 := by clear w1 w2; exact w64 (by omega) (by omega)
  have w4 : wrap64 (a + 1 + 1 + 1 + 1) = a + 1 + 1 + 1 + 1 := by clear w1 w2 w3; exact w64 (by omega) (by omega)
  have w5 : wrap64 (r + 1) = r + 1 := by clear w1 w2 w3 w4; exact w64 (by omega) (by omega)
  refine ⟨r + 1, ⟨a, mT (a + 1), mT (a + 1 + 1), mT (a + 1 + 1 + 1), mDecl (a + 1 + 1 + 1 + 1) x.f4.length, mAttr (a + 1 + 1 + 1 + 1 + 2 * (x.f4.length : Int)) x.f5.length, z, mT r⟩, ?_, r1, r2, fun xs i hx hz q hq => ?_⟩
  ·refine Ev.congr (fun k => by simp only [laws_markNodeS.node, w1, w2, w3, w4]; rfl) (Ev.bind m1 ?_)
   refine Ev.bind m2 ?_
   refine Ev.bind m3 ?_
   refine Ev.bind hd ?_
   refine Ev.bind ht ?_
   refine Ev.bind hr ?_
   refine Ev.bind m7 ?_
   exact Ev.congr (fun k => by rw [w5]) (Ev.now _)
  ·have hi : i < xs.length := by
    rcases Nat.lt_or_ge i xs.length with h | h
    ·exact h
    ·rw [List.getElem?_eq_none h] at hz; cases hz
   have hrd : rd_T34 xs (i : Int) = ⟨a, mT (a + 1), mT (a + 1 + 1), mT (a + 1 + 1 + 1), mDecl (a + 1 + 1 + 1 + 1) x.f4.length, mAttr (a + 1 + 1 + 1 + 1 + 2 * (x.f4.length : Int)) x.f5.length, z, mT r⟩ := by simp [rd_T34, List.getD_eq_getElem?_getD, hz]
   have i0 : (0 : Int) ≤ (i : Int) := by clear w1 w2 w3 w4 w5; omega
   have i1 : (i : Int) < (xs.length : Int) := by clear w1 w2 w3 w4 w5; omega
   have wi : wrap64 ((i : Int) + 1) = ((i + 1 : Nat) : Int) := by clear w1 w2 w3 w4 w5; rw [w64 (by omega) (by omega)]; omega
   refine Ev.step (fun k => by simp only [laws_heldNodeS.l0]; rw [if_pos i1, if_pos i0, hrd, if_pos rfl, w1]) (Ev.bind m1 ?_)
   refine Ev.congr (fun k => by rw [if_pos rfl, w2]) (Ev.bind m2 ?_)
   refine Ev.congr (fun k => by rw [if_pos rfl, w3]) (Ev.bind m3 ?_)
   refine Ev.congr (fun k => by rw [if_pos rfl, w4]) (Ev.bind gd ?_)
   refine Ev.congr (fun k => by rw [if_neg n1]) (Ev.bind gt ?_)
   refine Ev.congr (fun k => by rw [if_neg n2]) (Ev.bind hh ?_)
   refine Ev.congr (fun k => by rw [if_neg n3]) (Ev.bind m7 ?_)
   exact Ev.congr (fun k => by rw [if_pos rfl, w5, wi]) hq
theorem nodeEta (y : S34) : (⟨y.f0, y.f1, y.f2, y.f3, y.f4, y.f5, y.f6, y.f7⟩ : S34) = y := by cases y; rfl
theorem app_from {α : Type} {l : List α} {G : Nat → List α → Int → Option (List α)} {H : Nat → Nat → Option α}
  (hs : ∀ k acc (i : Nat), acc.length = i → i < l.length → G (k + 1) acc (i : Int) = (H k i).bind fun t => G k (acc ++ [t]) ((i + 1 : Nat) : Int))
  (hH : ∀ (i : Nat) (h : i < l.length), Ev (fun k => H k i) l[i]) (he : ∀ k acc, acc.length = l.length → G (k + 1) acc (l.length : Int) = some acc) (d : Nat) :
  ∀ (i : Nat) (acc : List α), i ≤ l.length → l.length - i = d → acc = l.take i → Ev (fun k => G k acc (i : Int)) l := by
 induction d with
 | zero =>
  intro i acc hi hd ha
  have e : i = l.length := by omega
  subst e
  rw [List.take_length] at ha
  subst ha
  exact Ev.step (f := fun _ => some acc) (fun k => he k acc rfl) (Ev.now _)
 | succ d ih =>
  intro i acc hi hd ha
  have hlt : i < l.length := by omega
  refine Ev.step (fun k => hs k acc i (by rw [ha, List.length_take]; omega) hlt) (Ev.bind (hH i hlt) ?_)
  exact ih (i + 1) _ (by omega) (by omega) (by rw [ha, List.take_succ_eq_append_getElem hlt])
theorem l5Copy_f (x : S34) : vNode x ≤ 1048576 → Ev (fun k => spec_l5Copy.f k x.f0 x.f1 x.f2 x.f3 x.f4 x.f5 x.f6 x.f7) (x.f0, x.f1, x.f2, x.f3, x.f4, x.f5, x.f6, x.f7) := by
 induction x using indI with
 | h x ih =>
  intro hv
  obtain ⟨b4, b5, b6, bs, bk⟩ := vNode_bounds x
  have hk : Ev (fun k => spec_l5All.f k x.f6) x.f6 := by
   have h := app_from (l := x.f6) (G := fun k acc i => spec_l5All.l0 k x.f6 acc i) (H := fun k i => (spec_l5Copy.f k (rd_T34 x.f6 (i : Int)).f0 (rd_T34 x.f6 (i : Int)).f1 (rd_T34 x.f6 (i : Int)).f2 (rd_T34 x.f6 (i : Int)).f3 (rd_T34 x.f6 (i : Int)).f4 (rd_T34 x.f6 (i : Int)).f5 (rd_T34 x.f6 (i : Int)).f6 (rd_T34 x.f6 (i : Int)).f7).bind fun q => some (⟨q.1, q.2.1, q.2.2.1, q.2.2.2.1, q.2.2.2.2.1, q.2.2.2.2.2.1, q.2.2.2.2.2.2.1, q.2.2.2.2.2.2.2⟩ : S34))
    (fun k acc i ha hi => by
     have c1 : (i : Int) < (x.f6.length : Int) := by omega
     have c0 : (0 : Int) ≤ (i : Int) := by omega
     have c2 : acc.length < 977343669134 := by omega
     have wi : wrap64 ((i : Int) + 1) = ((i + 1 : Nat) : Int) := by rw [w64 (by omega) (by omega)]; omega
     simp only [spec_l5All.l0]
     rw [if_pos c1, if_pos c0, wi, Option.bind_assoc]
     simp only [c2, if_true, Option.bind_some]
     rfl)
    (fun i hi => by
     rw [rd_INode _ i hi]
     refine Ev.bind (ih _ (List.getElem_mem hi) (by have := bk _ (List.getElem_mem hi); omega)) ?_
     exact Ev.congr (f := fun _ => some x.f6[i]) (fun k => congrArg some (nodeEta _)) (Ev.now _))
    (fun k acc ha => by simp only [spec_l5All.l0]; rw [if_neg (by omega)]) x.f6.length 0 [] (by omega) (by omega) rfl
   exact Ev.step (fun k => by simp only [spec_l5All.f]; rfl) h
  have c4 : ([] : List S88).length + x.f4.length < 4398046511104 := by simp; omega
  have c5 : ([] : List S90).length + x.f5.length < 2199023255552 := by simp; omega
  refine Ev.congr (fun k => by simp only [spec_l5Copy.f, spec_l5Copy.F, Option.bind_some]; rw [if_pos c4, if_pos c5]) (Ev.bind hk ?_)
  exact Ev.now _
theorem cloneNode_f (x : S34) : vNode x ≤ 1048576 → Ev (fun k => impl_cloneNode.f k x.f0 x.f1 x.f2 x.f3 x.f4 x.f5 x.f6 x.f7) (x.f0, x.f1, x.f2, x.f3, x.f4, x.f5, x.f6, x.f7) := by
 induction x using indI with
 | h x ih =>
  intro hv
  obtain ⟨b4, b5, b6, bs, bk⟩ := vNode_bounds x
  have hk : Ev (fun k => impl_cloneNodes.f k x.f6) x.f6 := by
   have h := app_from (l := x.f6) (G := fun k acc i => impl_cloneNodes.l0 k acc x.f6 (x.f6.length : Int) i) (H := fun k i => (impl_cloneNode.f k (rd_T34 x.f6 (i : Int)).f0 (rd_T34 x.f6 (i : Int)).f1 (rd_T34 x.f6 (i : Int)).f2 (rd_T34 x.f6 (i : Int)).f3 (rd_T34 x.f6 (i : Int)).f4 (rd_T34 x.f6 (i : Int)).f5 (rd_T34 x.f6 (i : Int)).f6 (rd_T34 x.f6 (i : Int)).f7).bind fun q => some (⟨q.1, q.2.1, q.2.2.1, q.2.2.2.1, q.2.2.2.2.1, q.2.2.2.2.2.1, q.2.2.2.2.2.2.1, q.2.2.2.2.2.2.2⟩ : S34))
    (fun k acc i ha hi => by
     have c1 : (i : Int) < (x.f6.length : Int) := by omega
     have c0 : (0 : Int) ≤ (i : Int) := by omega
     have c2 : acc.length < 977343669134 := by omega
     have wi : wrap64 ((i : Int) + 1) = ((i + 1 : Nat) : Int) := by rw [w64 (by omega) (by omega)]; omega
     simp only [impl_cloneNodes.l0]
     rw [if_pos c1, if_pos c0, if_pos c1, wi, Option.bind_assoc]
     simp only [c2, if_true, Option.bind_some]
     rfl)
    (fun i hi => by
     rw [rd_INode _ i hi]
     refine Ev.bind (ih _ (List.getElem_mem hi) (by have := bk _ (List.getElem_mem hi); omega)) ?_
     exact Ev.congr (f := fun _ => some x.f6[i]) (fun k => congrArg some (nodeEta _)) (Ev.now _))
    (fun k acc ha => by simp only [impl_cloneNodes.l0]; rw [if_neg (by omega)]) x.f6.length 0 [] (by omega) (by omega) rfl
   exact Ev.step (fun k => by simp only [impl_cloneNodes.f]; rfl) h
  have c4 : x.f4.length < 4398046511104 := by omega
  have c5 : x.f5.length < 2199023255552 := by omega
  refine Ev.congr (fun k => by simp only [impl_cloneNode.f, impl_cloneNode.F, impl_Decl.f, impl_Attr.f]; rw [if_pos c4, if_pos c5]; simp only [Option.bind_some]; rfl) (Ev.bind hk ?_)
  exact Ev.now _
theorem markIntS_ex (l : List Int) (hl : l.length ≤ 4194304) (a : Int) (h0 : 0 ≤ a) (h1 : a ≤ 549755813888) : ∃ y, Ev (fun k => laws_markIntS.f k l a) (a + (l.length : Int), y) := by
 obtain ⟨y, hy, h⟩ := marks_from (n := l.length) (c := 1) (by omega) (G := fun k x a i => laws_markIntS.l0 k x a i)
  (fun x a i hx hi h0 h1 => ⟨x.set i a, by simp [hx], fun q hq => Ev.step (fun k => by
   simp only [laws_markIntS.l0]
   rw [if_pos (by omega), if_pos (by omega), Int.toNat_natCast, w64 (i := a + 1) (by omega) (by omega), w64 (i := (i : Int) + 1) (by omega) (by omega)]) hq⟩)
  (fun k x a hx => by simp only [laws_markIntS.l0]; rw [if_neg (by omega)]) l.length 0 l a rfl (by omega) (by omega) h0 (by omega)
 rw [Int.one_mul] at h
 exact ⟨y, Ev.congr (fun k => by simp [laws_markIntS.f]) h⟩
theorem heldNode_ev (x : S34) (hv : vNode x ≤ 1048576) (a : Int) (h0 : 0 ≤ a) (h1 : a ≤ 274877906944) :
  ∃ r z, Ev (fun k => laws_markNode.g k x a) (r, z) ∧ a ≤ r ∧ r ≤ a + 8 * (1 + vNode x) ∧ Ev (fun k => laws_heldNode.f k z.f0 z.f1 z.f2 z.f3 z.f4 z.f5 z.f6 z.f7 a) r := by
 obtain ⟨b4, b5, b6, bs, bk⟩ := vNode_bounds x
 have e := vNode_eq x
 have hs := sumOf_nonneg vNode_n x.f6
 obtain ⟨r, z, hr, c1, c2, hh⟩ := markHeldS_of x.f6 (by omega) (fun y hy => markHeld_node y (by have := bk y hy; omega)) (a + 2 * (x.f4.length : Int) + 4 * (x.f5.length : Int)) (by omega) (by omega)
 have gd := heldDecl_f a x.f4.length (by omega) (by omega)
 have gt := heldAttr_f (a + 2 * (x.f4.length : Int)) x.f5.length (by omega) (by omega)
 refine ⟨r, ⟨x.f0, x.f1, x.f2, x.f3, mDecl a x.f4.length, mAttr (a + 2 * (x.f4.length : Int)) x.f5.length, z, x.f7⟩, ?_, by omega, by omega, ?_⟩
 ·refine Ev.congr (fun k => by simp only [laws_markNode.g]; rfl) (Ev.bind (markDecl_f a x.f4 (by omega) (by omega)) ?_)
  refine Ev.bind (markAttr_f _ x.f5 (by omega) (by omega)) ?_
  refine Ev.bind hr ?_
  exact Ev.now _
 ·refine Ev.congr (fun k => by simp only [laws_heldNode.f]; rfl) (Ev.bind gd ?_)
  refine Ev.congr (fun k => by rw [if_neg (by omega)]) (Ev.bind gt ?_)
  refine Ev.congr (fun k => by rw [if_neg (by omega)]) (Ev.bind hh ?_)
  exact Ev.congr (fun k => by rw [if_neg (by omega)]) (Ev.now _)
theorem nodeat_same (p : List Int) (hp : p.length ≤ 1048576) (d : Nat) : ∀ (i : Nat) (x : S34), i ≤ p.length → p.length - i = d → vNode x ≤ 1048576 →
  ∃ (y : S34) (b : Bool), vNode y ≤ 1048576 ∧ Ev (fun k => spec_NodeAt.l0 k p (i : Int) x.f0 x.f1 x.f2 x.f3 x.f4 x.f5 x.f6 x.f7) (y.f0, y.f1, y.f2, y.f3, y.f4, y.f5, y.f6, y.f7, b) ∧ Ev (fun k => impl_NodeAt.l0 k p (p.length : Int) (i : Int) x.f0 x.f1 x.f2 x.f3 x.f4 x.f5 x.f6 x.f7) (y.f0, y.f1, y.f2, y.f3, y.f4, y.f5, y.f6, y.f7, b) := by
 induction d with
 | zero =>
  intro i x hi hd hv
  refine ⟨x, true, hv, ?_, ?_⟩
  ·refine Ev.step (fun k => by simp only [spec_NodeAt.l0]; rw [if_neg (by omega)]) (Ev.bind (l5Copy_f x hv) ?_)
   exact Ev.now _
  ·refine Ev.step (fun k => by simp only [impl_NodeAt.l0]; rw [if_neg (by omega)]) (Ev.bind (cloneNode_f x hv) ?_)
   exact Ev.now _
 | succ d ih =>
  intro i x hi hd hv
  obtain ⟨b4, b5, b6, bs, bk⟩ := vNode_bounds x
  have c0 : (0 : Int) ≤ (i : Int) := by omega
  have c1 : (i : Int) < (p.length : Int) := by omega
  have wi : wrap64 ((i : Int) + 1) = ((i + 1 : Nat) : Int) := by rw [w64 (by omega) (by omega)]; omega
  have wl : wrap64 ((x.f6.length : Int) - 1) = (x.f6.length : Int) - 1 := by clear wi; exact w64 (by omega) (by omega)
  obtain ⟨j, hj⟩ : ∃ j, rd p (i : Int) = j := ⟨_, rfl⟩
  have zero : ∃ y : S34, vNode y ≤ 1048576 ∧ y = ⟨0, (⟨#[]⟩ : ByteArray), (⟨#[]⟩ : ByteArray), (⟨#[]⟩ : ByteArray), [], [], [], (⟨#[]⟩ : ByteArray)⟩ := ⟨_, by rw [vNode_eq]; simp [sumOf_nil], rfl⟩
  obtain ⟨y0, hy0, rfl⟩ := zero
  by_cases j0 : j ≥ 0
  ·by_cases j1 : j ≤ (x.f6.length : Int) - 1
   ·have hlt : j.toNat < x.f6.length := by clear wi wl; omega
    have j2 : j < (x.f6.length : Int) := by clear wi wl; omega
    have hrd : rd_T34 x.f6 j = x.f6[j.toNat] := by
     have e : j = ((j.toNat : Nat) : Int) := by clear wi wl; omega
     have h := rd_INode x.f6 j.toNat hlt
     rw [← e] at h
     exact h
    obtain ⟨y, b, hy, h1, h2⟩ := ih (i + 1) x.f6[j.toNat] (by clear wi wl; omega) (by clear wi wl; omega) (by have := bk _ (List.getElem_mem hlt); clear wi wl; omega)
    refine ⟨y, b, hy, Ev.step (fun k => ?_) h1, Ev.step (fun k => ?_) h2⟩
    ·simp only [spec_NodeAt.l0, spec_l1In.f]
     rw [if_pos c1, if_pos c0, hj, if_pos j0, Option.bind_some, wl, if_pos (decide_eq_true j1), if_pos j0, if_pos j2, hrd, wi]
    ·simp only [impl_NodeAt.l0, impl_in.f]
     rw [if_pos c1, if_pos c0, if_pos c1, hj, if_pos j0, Option.bind_some, wl, if_pos (decide_eq_true j1), if_pos j0, if_pos j2, hrd, wi]
   ·refine ⟨_, false, hy0, Ev.step (fun k => ?_) (Ev.now _), Ev.step (fun k => ?_) (Ev.now _)⟩
    ·simp only [spec_NodeAt.l0, spec_l1In.f]
     rw [if_pos c1, if_pos c0, hj, if_pos j0, Option.bind_some, wl, if_neg (by simpa using j1)]
    ·simp only [impl_NodeAt.l0, impl_in.f]
     rw [if_pos c1, if_pos c0, if_pos c1, hj, if_pos j0, Option.bind_some, wl, if_neg (by simpa using j1)]
  ·refine ⟨_, false, hy0, Ev.step (fun k => ?_) (Ev.now _), Ev.step (fun k => ?_) (Ev.now _)⟩
   ·simp only [spec_NodeAt.l0, spec_l1In.f]
    rw [if_pos c1, if_pos c0, hj, if_neg j0, Option.bind_some, if_neg (by simp)]
   ·simp only [impl_NodeAt.l0, impl_in.f]
    rw [if_pos c1, if_pos c0, if_pos c1, hj, if_neg j0, Option.bind_some, if_neg (by simp)]
theorem FnExactNodeAt : laws_FnExactNodeAt.Pure := by
 intro x p hw _
 by_cases hp : (p.length : Int) > 1048576
 ·exact ⟨0, by simp only [laws_FnExactNodeAt.f]; rw [if_pos hp]⟩
 obtain ⟨r, hr, hrw⟩ := szNode_f x hw 1048576 (by omega) (by omega)
 refine Ev.rounds (r := true) ?_
 refine Ev.congr (fun k => by simp only [laws_FnExactNodeAt.f]; rw [if_neg hp]) (Ev.bind hr ?_)
 by_cases hn : r < 0
 ·exact Ev.congr (fun k => by rw [if_pos hn]) (Ev.now _)
 have hwn : wNode x ≤ 1048576 := by have := hrw (by omega); omega
 have hv : vNode (cNo x) ≤ 1048576 := by have := vNode_conv x; omega
 have ht := toNode_f x hwn
 have hi := toIntS_f p (by omega)
 obtain ⟨y, b, hy, s1, s2⟩ := nodeat_same p (by omega) p.length 0 (cNo x) (by omega) (by omega) hv
 have he := eqNode_f y hy
 have hx := eqNode_f (cNo x) hv
 have hq := eqIntS_f p (by omega)
 obtain ⟨m1, m2, hm, hm0, hm1⟩ : ∃ r z, Ev (fun k => laws_markNode.g k (cNo x) 1) (r, z) ∧ 1 ≤ r ∧ r ≤ 1 + 8 * (1 + vNode (cNo x)) := by
  obtain ⟨r, z, h1, h2, h3, _⟩ := heldNode_ev (cNo x) hv 1 (by omega) (by omega)
  exact ⟨r, z, h1, h2, h3⟩
 obtain ⟨n2, hk⟩ := markIntS_ex p (by omega) m1 (by omega) (by omega)
 obtain ⟨q1, q2, g1, g2, g3, g4⟩ := heldNode_ev y hy 1 (by omega) (by omega)
 have sp : Ev (fun k => spec_NodeAt.f k x.f0 x.f1 x.f2 x.f3 (x.f4.map cDe) (x.f5.map cAt) (x.f6.map cNo) x.f7 p) (y.f0, y.f1, y.f2, y.f3, y.f4, y.f5, y.f6, y.f7, b) := by
  rw [convNode_eq] at s1
  exact Ev.congr (fun k => by simp only [spec_NodeAt.f]; rfl) s1
 have ip : Ev (fun k => impl_NodeAt.f k x.f0 x.f1 x.f2 x.f3 (x.f4.map cDe) (x.f5.map cAt) (x.f6.map cNo) x.f7 p) (y.f0, y.f1, y.f2, y.f3, y.f4, y.f5, y.f6, y.f7, b) := by
  rw [convNode_eq] at s2
  exact Ev.congr (fun k => by simp only [impl_NodeAt.f]; rfl) s2
 have hmg : Ev (fun k => laws_markNode.g k ⟨x.f0, x.f1, x.f2, x.f3, x.f4.map cDe, x.f5.map cAt, x.f6.map cNo, x.f7⟩ 1) (m1, m2) := by rw [convNode_eq] at hm; exact hm
 have hyg : Ev (fun k => laws_markNode.g k ⟨y.f0, y.f1, y.f2, y.f3, y.f4, y.f5, y.f6, y.f7⟩ 1) (q1, q2) := Ev.congr (fun k => by rw [nodeEta]) g1
 rw [convNode_eq] at hx
 refine Ev.congr (fun k => by rw [if_neg hn]) (Ev.bind ht ?_)
 refine Ev.bind hi ?_
 refine Ev.bind sp ?_
 refine Ev.bind ip ?_
 refine Ev.bind he ?_
 refine Ev.bind hx ?_
 refine Ev.bind hq ?_
 refine Ev.bind hmg ?_
 refine Ev.bind hk ?_
 refine Ev.bind hyg ?_
 refine Ev.bind g4 ?_
 exact Ev.congr (fun k => by rw [if_pos ⟨rfl, rfl, rfl, rfl, by show ¬ m1 + (p.length : Int) < 0; omega, by omega, rfl⟩]) (Ev.now _)

end FnExactNodeAt_
theorem FnExactNodeAt : laws_FnExactNodeAt.Pure := FnExactNodeAt_.FnExactNodeAt
end Go.Proofs.Ytdbinpeglamnnaa.Pure
