/- The program's SameNode (slices.EqualFunc with itself, slices.Equal) and the reference's loops answer alike at every two trees; both read as they did.
Conditions: none. -/
import Derived.Test.YtehlkajccnmddaaSaidFnExactSameNode
import Derived.Test.YtehlkajccnmddaaLists
namespace Go.Proofs.Ytehlkajccnmddaa.Pure
open Go.RowKit Go.Proofs.Ytehlkajccnmddaa.PN Go.Proofs.YtehlkajccnmddaaW.PrintWords Go.Proofs.YtehlkajccnmddaaW.PrintLast Go.Proofs.Ytehlkajccnmddaa.Lists
set_option linter.unusedVariables false
set_option linter.unusedSimpArgs false

namespace FnExactSameNode_
theorem rd_LDecl (l : List S75) (i : Nat) (h : i < l.length) : rd_T75 l (i : Int) = l[i] := by simp [rd_T75, List.getD_eq_getElem?_getD, List.getElem?_eq_getElem h]
theorem rd_IDecl (l : List S76) (i : Nat) (h : i < l.length) : rd_T76 l (i : Int) = l[i] := by simp [rd_T76, List.getD_eq_getElem?_getD, List.getElem?_eq_getElem h]
def cDe (x : S75) : S76 := ⟨x.f0, x.f1⟩
theorem eqDecl_f (x : S76) : laws_eqDecl.f x.f0 x.f1 x.f0 x.f1 = some true := by
 unfold laws_eqDecl.f
 simp
def wDecl (x : S75) : Int := (x.f0.size : Int) + (x.f1.size : Int)
theorem wDecl_n (x : S75) : 0 ≤ wDecl x := by unfold wDecl; omega
theorem szDecl_f (x : S75) (left : Int) (hw : WF75 x) (h0 : 0 ≤ left) (h1 : left ≤ 1048576) : ∃ r, laws_szDecl.f x.f0 x.f1 left = some r ∧ (0 ≤ r → r + wDecl x = left) := by
 obtain ⟨h_0, h_1⟩ := hw
 unfold maxLen at h_0 h_1
 unfold laws_szDecl.f wrap64 wDecl
 split
 ·exact ⟨_, rfl, by omega⟩
 split
 ·exact ⟨_, rfl, by omega⟩
 exact ⟨_, rfl, fun _ => by omega⟩
theorem szDeclS_f (l : List S75) (hw : l.length ≤ maxLen ∧ ∀ x ∈ l, WF75 x) (left : Int) (h0 : 0 ≤ left) (h1 : left ≤ 1048576) : ∃ r, Ev (fun k => laws_szDeclS.f k l left) r ∧ (0 ≤ r → r + ((l.length : Int) + sumOf wDecl l) = left) := by
 obtain ⟨hl, hw⟩ := hw
 unfold maxLen at hl
 have e : wrap64 (left - (l.length : Int)) = left - (l.length : Int) := w64 (by omega) (by omega)
 by_cases hn : left - (l.length : Int) < 0
 ·exact ⟨-1, Ev.congr (fun k => by simp only [laws_szDeclS.f]; rw [e, if_pos hn]) (Ev.now _), fun h => by omega⟩
 ·obtain ⟨r, hr, hrw⟩ := size_all (l := l) (w := wDecl) (M := 1048576) (G := fun k left i => laws_szDeclS.l0 k l left i) (H := fun _ left i => laws_szDecl.f (rd_T75 l (i : Int)).f0 (rd_T75 l (i : Int)).f1 left) wDecl_n
   (fun k left i h0 hi => by simp only [laws_szDeclS.l0]; rw [if_pos (by omega), if_pos (by omega), w64 (by omega) (by omega)])
   (fun i hi left h0 h1 => by
    obtain ⟨r, a, b⟩ := szDecl_f l[i] left (hw _ (List.getElem_mem hi)) h0 h1
    exact ⟨r, Ev.congr (fun k => by rw [rd_LDecl l i hi]; exact a) (Ev.now r), b⟩)
   (fun k left h0 => by simp only [laws_szDeclS.l0]; rw [if_neg (by omega)]) (left - (l.length : Int)) (by omega) (by omega)
  exact ⟨r, Ev.congr (fun k => by simp only [laws_szDeclS.f]; rw [e, if_neg hn]) hr, fun h => by have := hrw h; omega⟩
theorem toDeclS_f (l : List S75) (hl : l.length ≤ 1048576) : Ev (fun k => laws_toDeclS.f k l) (l.map cDe) := by
 have h := copy_all (l := l) (f := cDe) (G := fun k x i => laws_toDeclS.l0 k l x i) (H := fun _ i => some (cDe (rd_T75 l (i : Int)))) (List.replicate l.length z76) (by simp)
  (fun k x i hx hi => by
   simp only [laws_toDeclS.l0, laws_toDecl.f, Option.bind_some]
   rw [if_pos (by omega), if_pos (by omega), if_pos (by omega), w64 (by omega) (by omega), Int.toNat_natCast]
   rfl)
  (fun i hi => by rw [rd_LDecl l i hi]; exact Ev.now _) (fun k x hx => by simp only [laws_toDeclS.l0]; rw [if_neg (by omega)])
 refine Ev.congr (fun k => ?_) h
 simp only [laws_toDeclS.f, Int.toNat_natCast]
 rw [if_pos (by omega), if_pos (by omega)]
theorem eqDeclS_f (l : List S76) (hl : l.length ≤ 1048576) : Ev (fun k => laws_eqDeclS.f k l l) true := by
 have h := all_all (n := l.length) (G := fun k i => laws_eqDeclS.l0 k l l i) (H := fun _ i => laws_eqDecl.f (rd_T76 l (i : Int)).f0 (rd_T76 l (i : Int)).f1 (rd_T76 l (i : Int)).f0 (rd_T76 l (i : Int)).f1)
  (fun k i hi => by simp only [laws_eqDeclS.l0]; rw [if_pos (by omega), if_pos (by omega), if_pos (by omega), w64 (by omega) (by omega)])
  (fun i hi => Ev.congr (fun k => eqDecl_f _) (Ev.now true)) (fun k => by simp only [laws_eqDeclS.l0]; rw [if_neg (by omega)])
 refine Ev.congr (fun k => ?_) h
 simp only [laws_eqDeclS.f]
 rw [if_pos trivial]
theorem rd_LAttr (l : List S115) (i : Nat) (h : i < l.length) : rd_T115 l (i : Int) = l[i] := by simp [rd_T115, List.getD_eq_getElem?_getD, List.getElem?_eq_getElem h]
def cAt (x : S115) : S87 := ⟨x.f0, x.f1, x.f2, x.f3⟩
theorem eqAttr_f (x : S87) : laws_eqAttr.f x.f0 x.f1 x.f2 x.f3 x.f0 x.f1 x.f2 x.f3 = some true := by
 unfold laws_eqAttr.f
 simp
def wAttr (x : S115) : Int := (x.f0.size : Int) + (x.f1.size : Int) + (x.f2.size : Int) + (x.f3.size : Int)
theorem wAttr_n (x : S115) : 0 ≤ wAttr x := by unfold wAttr; omega
theorem szAttr_f (x : S115) (left : Int) (hw : WF115 x) (h0 : 0 ≤ left) (h1 : left ≤ 1048576) : ∃ r, laws_szAttr.f x.f0 x.f1 x.f2 x.f3 left = some r ∧ (0 ≤ r → r + wAttr x = left) := by
 obtain ⟨h_0, h_1, h_2, h_3⟩ := hw
 unfold maxLen at h_0 h_1 h_2 h_3
 unfold laws_szAttr.f wrap64 wAttr
 split
 ·exact ⟨_, rfl, by omega⟩
 split
 ·exact ⟨_, rfl, by omega⟩
 split
 ·exact ⟨_, rfl, by omega⟩
 split
 ·exact ⟨_, rfl, by omega⟩
 exact ⟨_, rfl, fun _ => by omega⟩
theorem szAttrS_f (l : List S115) (hw : l.length ≤ maxLen ∧ ∀ x ∈ l, WF115 x) (left : Int) (h0 : 0 ≤ left) (h1 : left ≤ 1048576) : ∃ r, Ev (fun k => laws_szAttrS.f k l left) r ∧ (0 ≤ r → r + ((l.length : Int) + sumOf wAttr l) = left) := by
 obtain ⟨hl, hw⟩ := hw
 unfold maxLen at hl
 have e : wrap64 (left - (l.length : Int)) = left - (l.length : Int) := w64 (by omega) (by omega)
 by_cases hn : left - (l.length : Int) < 0
 ·exact ⟨-1, Ev.congr (fun k => by simp only [laws_szAttrS.f]; rw [e, if_pos hn]) (Ev.now _), fun h => by omega⟩
 ·obtain ⟨r, hr, hrw⟩ := size_all (l := l) (w := wAttr) (M := 1048576) (G := fun k left i => laws_szAttrS.l0 k l left i) (H := fun _ left i => laws_szAttr.f (rd_T115 l (i : Int)).f0 (rd_T115 l (i : Int)).f1 (rd_T115 l (i : Int)).f2 (rd_T115 l (i : Int)).f3 left) wAttr_n
   (fun k left i h0 hi => by simp only [laws_szAttrS.l0]; rw [if_pos (by omega), if_pos (by omega), w64 (by omega) (by omega)])
   (fun i hi left h0 h1 => by
    obtain ⟨r, a, b⟩ := szAttr_f l[i] left (hw _ (List.getElem_mem hi)) h0 h1
    exact ⟨r, Ev.congr (fun k => by rw [rd_LAttr l i hi]; exact a) (Ev.now r), b⟩)
   (fun k left h0 => by simp only [laws_szAttrS.l0]; rw [if_neg (by omega)]) (left - (l.length : Int)) (by omega) (by omega)
  exact ⟨r, Ev.congr (fun k => by simp only [laws_szAttrS.f]; rw [e, if_neg hn]) hr, fun h => by have := hrw h; omega⟩
theorem toAttrS_f (l : List S115) (hl : l.length ≤ 1048576) : Ev (fun k => laws_toAttrS.f k l) (l.map cAt) := by
 have h := copy_all (l := l) (f := cAt) (G := fun k x i => laws_toAttrS.l0 k l x i) (H := fun _ i => some (cAt (rd_T115 l (i : Int)))) (List.replicate l.length z87) (by simp)
  (fun k x i hx hi => by
   simp only [laws_toAttrS.l0, laws_toAttr.f, Option.bind_some]
   rw [if_pos (by omega), if_pos (by omega), if_pos (by omega), w64 (by omega) (by omega), Int.toNat_natCast]
   rfl)
  (fun i hi => by rw [rd_LAttr l i hi]; exact Ev.now _) (fun k x hx => by simp only [laws_toAttrS.l0]; rw [if_neg (by omega)])
 refine Ev.congr (fun k => ?_) h
 simp only [laws_toAttrS.f, Int.toNat_natCast]
 rw [if_pos (by omega), if_pos (by omega)]
theorem eqAttrS_f (l : List S87) (hl : l.length ≤ 1048576) : Ev (fun k => laws_eqAttrS.f k l l) true := by
 have h := all_all (n := l.length) (G := fun k i => laws_eqAttrS.l0 k l l i) (H := fun _ i => laws_eqAttr.f (rd_T87 l (i : Int)).f0 (rd_T87 l (i : Int)).f1 (rd_T87 l (i : Int)).f2 (rd_T87 l (i : Int)).f3 (rd_T87 l (i : Int)).f0 (rd_T87 l (i : Int)).f1 (rd_T87 l (i : Int)).f2 (rd_T87 l (i : Int)).f3)
  (fun k i hi => by simp only [laws_eqAttrS.l0]; rw [if_pos (by omega), if_pos (by omega), if_pos (by omega), w64 (by omega) (by omega)])
  (fun i hi => Ev.congr (fun k => eqAttr_f _) (Ev.now true)) (fun k => by simp only [laws_eqAttrS.l0]; rw [if_neg (by omega)])
 refine Ev.congr (fun k => ?_) h
 simp only [laws_eqAttrS.f]
 rw [if_pos trivial]
theorem rd_LNode (l : List S38) (i : Nat) (h : i < l.length) : rd_T38 l (i : Int) = l[i] := by simp [rd_T38, List.getD_eq_getElem?_getD, List.getElem?_eq_getElem h]
theorem rd_INode (l : List S44) (i : Nat) (h : i < l.length) : rd_T44 l (i : Int) = l[i] := by simp [rd_T44, List.getD_eq_getElem?_getD, List.getElem?_eq_getElem h]
theorem kidL (x y : S38) (h : y ∈ x.f6) : SizeOf.sizeOf y < SizeOf.sizeOf x := by
 have := List.sizeOf_lt_of_mem h
 cases x
 simp at this ⊢
 omega
theorem kidI (x y : S44) (h : y ∈ x.f6) : SizeOf.sizeOf y < SizeOf.sizeOf x := by
 have := List.sizeOf_lt_of_mem h
 cases x
 simp at this ⊢
 omega
theorem indL {P : S38 → Prop} (h : ∀ x, (∀ y ∈ x.f6, P y) → P x) (x : S38) : P x := by
 have : ∀ n (x : S38), SizeOf.sizeOf x < n → P x := by
  intro n
  induction n with
  | zero => intro x hx; omega
  | succ n ih => intro x hx; exact h x (fun y hy => ih y (by have := kidL x y hy; omega))
 exact this _ x (Nat.lt_succ_self _)
theorem indI {P : S44 → Prop} (h : ∀ x, (∀ y ∈ x.f6, P y) → P x) (x : S44) : P x := by
 have : ∀ n (x : S44), SizeOf.sizeOf x < n → P x := by
  intro n
  induction n with
  | zero => intro x hx; omega
  | succ n ih => intro x hx; exact h x (fun y hy => ih y (by have := kidI x y hy; omega))
 exact this _ x (Nat.lt_succ_self _)
mutual
def wNode : S38 → Int
 | ⟨_, a, b, c, ds, ats, ks, t⟩ => (a.size : Int) + (b.size : Int) + (c.size : Int) + ((ds.length : Int) + sumOf wDecl ds) + ((ats.length : Int) + sumOf wAttr ats) + ((ks.length : Int) + wNodes ks) + (t.size : Int)
def wNodes : List S38 → Int
 | [] => 0
 | x :: xs => wNode x + wNodes xs
end
theorem wNodes_eq (l : List S38) : wNodes l = sumOf wNode l := by
 induction l with
 | nil => rfl
 | cons x l ih => rw [sumOf_cons, ← ih]; rfl
theorem wNode_eq (x : S38) : wNode x = (x.f1.size : Int) + (x.f2.size : Int) + (x.f3.size : Int) + ((x.f4.length : Int) + sumOf wDecl x.f4) + ((x.f5.length : Int) + sumOf wAttr x.f5) + ((x.f6.length : Int) + sumOf wNode x.f6) + (x.f7.size : Int) := by
 cases x
 rw [wNode, wNodes_eq]
theorem sum_nonneg_of {α : Type} {w : α → Int} {l : List α} (h : ∀ x ∈ l, 0 ≤ w x) : 0 ≤ sumOf w l := by
 induction l with
 | nil => exact Int.le_refl _
 | cons z m ihm => rw [sumOf_cons]; have := h z (List.mem_cons_self ..); have := ihm (fun x hx => h x (List.mem_cons_of_mem _ hx)); omega
theorem wNode_n (x : S38) : 0 ≤ wNode x := by
 induction x using indL with
 | h x ih =>
  rw [wNode_eq]
  have := sumOf_nonneg wDecl_n x.f4
  have := sumOf_nonneg wAttr_n x.f5
  have := sum_nonneg_of ih
  omega
theorem wNode_bounds (x : S38) : (x.f4.length : Int) ≤ wNode x ∧ (x.f5.length : Int) ≤ wNode x ∧ (x.f6.length : Int) ≤ wNode x ∧ sumOf wNode x.f6 ≤ wNode x ∧ ∀ y ∈ x.f6, wNode y ≤ wNode x := by
 rw [wNode_eq]
 have := sumOf_nonneg wDecl_n x.f4
 have := sumOf_nonneg wAttr_n x.f5
 have := sumOf_nonneg wNode_n x.f6
 refine ⟨by omega, by omega, by omega, by omega, fun y hy => ?_⟩
 have := sumOf_mem wNode_n hy
 omega
mutual
def cNo : S38 → S44
 | ⟨k, a, b, c, ds, ats, ks, t⟩ => ⟨k, a, b, c, ds.map cDe, ats.map cAt, cNos ks, t⟩
def cNos : List S38 → List S44
 | [] => []
 | x :: xs => cNo x :: cNos xs
end
theorem convNodes_eq (l : List S38) : cNos l = l.map cNo := by
 induction l with
 | nil => rfl
 | cons x l ih => rw [List.map_cons, ← ih]; rfl
theorem convNode_eq (x : S38) : cNo x = ⟨x.f0, x.f1, x.f2, x.f3, x.f4.map cDe, x.f5.map cAt, x.f6.map cNo, x.f7⟩ := by
 cases x
 rw [cNo, convNodes_eq]
mutual
def vNode : S44 → Int
 | ⟨_, _, _, _, ds, ats, ks, _⟩ => (ds.length : Int) + (ats.length : Int) + ((ks.length : Int) + vNodes ks)
def vNodes : List S44 → Int
 | [] => 0
 | x :: xs => vNode x + vNodes xs
end
theorem vNodes_eq (l : List S44) : vNodes l = sumOf vNode l := by
 induction l with
 | nil => rfl
 | cons x l ih => rw [sumOf_cons, ← ih]; rfl
theorem vNode_eq (x : S44) : vNode x = (x.f4.length : Int) + (x.f5.length : Int) + ((x.f6.length : Int) + sumOf vNode x.f6) := by
 cases x
 rw [vNode, vNodes_eq]
theorem vNode_n (x : S44) : 0 ≤ vNode x := by
 induction x using indI with
 | h x ih =>
  rw [vNode_eq]
  have := sum_nonneg_of ih
  omega
theorem vNode_bounds (x : S44) : (x.f4.length : Int) ≤ vNode x ∧ (x.f5.length : Int) ≤ vNode x ∧ (x.f6.length : Int) ≤ vNode x ∧ sumOf vNode x.f6 ≤ vNode x ∧ ∀ y ∈ x.f6, vNode y ≤ vNode x := by
 rw [vNode_eq]
 have := sumOf_nonneg vNode_n x.f6
 refine ⟨by omega, by omega, by omega, by omega, fun y hy => ?_⟩
 have := sumOf_mem vNode_n hy
 omega
theorem sumOf_map_le {α β : Type} {f : α → β} {v : β → Int} {w : α → Int} {l : List α} (h : ∀ x ∈ l, v (f x) ≤ w x) : sumOf v (l.map f) ≤ sumOf w l := by
 induction l with
 | nil => exact Int.le_refl _
 | cons z m ihm => rw [List.map_cons, sumOf_cons, sumOf_cons]; have := h z (List.mem_cons_self ..); have := ihm (fun x hx => h x (List.mem_cons_of_mem _ hx)); omega
theorem vNode_conv (x : S38) : vNode (cNo x) ≤ wNode x := by
 induction x using indL with
 | h x ih =>
  rw [wNode_eq, convNode_eq, vNode_eq]
  have := sumOf_nonneg wDecl_n x.f4
  have := sumOf_nonneg wAttr_n x.f5
  have := sumOf_map_le ih
  simp only [List.length_map]
  omega
theorem szNodeS_of (l : List S38) (hl : l.length ≤ maxLen) (hx : ∀ x ∈ l, ∀ left, 0 ≤ left → left ≤ 1048576 → ∃ r, Ev (fun k => laws_szNode.f k x.f0 x.f1 x.f2 x.f3 x.f4 x.f5 x.f6 x.f7 left) r ∧ (0 ≤ r → r + wNode x = left)) (left : Int) (h0 : 0 ≤ left) (h1 : left ≤ 1048576) :
  ∃ r, Ev (fun k => laws_szNodeS.f k l left) r ∧ (0 ≤ r → r + ((l.length : Int) + sumOf wNode l) = left) := by
 unfold maxLen at hl
 have e : wrap64 (left - (l.length : Int)) = left - (l.length : Int) := w64 (by omega) (by omega)
 by_cases hn : left - (l.length : Int) < 0
 ·exact ⟨-1, Ev.step (fun k => by simp only [laws_szNodeS.f]; rw [e, if_pos hn]) (Ev.now _), fun h => by omega⟩
 ·obtain ⟨r, hr, hrw⟩ := size_all (l := l) (w := wNode) (M := 1048576) (G := fun k left i => laws_szNodeS.l0 k l left i) (H := fun k left i => laws_szNode.f k (rd_T38 l (i : Int)).f0 (rd_T38 l (i : Int)).f1 (rd_T38 l (i : Int)).f2 (rd_T38 l (i : Int)).f3 (rd_T38 l (i : Int)).f4 (rd_T38 l (i : Int)).f5 (rd_T38 l (i : Int)).f6 (rd_T38 l (i : Int)).f7 left) wNode_n
   (fun k left i h0 hi => by simp only [laws_szNodeS.l0]; rw [if_pos (by omega), if_pos (by omega), w64 (by omega) (by omega)]; rfl)
   (fun i hi left h0 h1 => by
    obtain ⟨r, a, b⟩ := hx l[i] (List.getElem_mem hi) left h0 h1
    exact ⟨r, Ev.congr (fun k => by rw [rd_LNode l i hi]) a, b⟩)
   (fun k left h0 => by simp only [laws_szNodeS.l0]; rw [if_neg (by omega)]) (left - (l.length : Int)) (by omega) (by omega)
  exact ⟨r, Ev.step (fun k => by simp only [laws_szNodeS.f]; rw [e, if_neg hn]) hr, fun h => by have := hrw h; omega⟩
theorem szNode_f (x : S38) : WF38 x → ∀ left, 0 ≤ left → left ≤ 1048576 → ∃ r, Ev (fun k => laws_szNode.f k x.f0 x.f1 x.f2 x.f3 x.f4 x.f5 x.f6 x.f7 left) r ∧ (0 ≤ r → r + wNode x = left) := by
 induction x using indL with
 | h x ih =>
  intro hw left h0 h1
  obtain ⟨_, s0, s1, s2, s3, s4, s5, g6, s6, s7⟩ := hw
  unfold maxLen at s1 s2 s3 s7
  have nd := sumOf_nonneg wDecl_n x.f4
  have na := sumOf_nonneg wAttr_n x.f5
  have nk := sumOf_nonneg wNode_n x.f6
  rw [wNode_eq]
  have e1 : wrap64 (left - (x.f1.size : Int)) = left - (x.f1.size : Int) := w64 (by omega) (by omega)
  by_cases n1 : left - (x.f1.size : Int) < 0
  ·exact ⟨-1, Ev.congr (fun k => by simp only [laws_szNode.f, laws_szNode.F]; rw [e1, if_pos n1]) (Ev.now _), fun h => by omega⟩
  have e2 : wrap64 (left - (x.f1.size : Int) - (x.f2.size : Int)) = left - (x.f1.size : Int) - (x.f2.size : Int) := w64 (by omega) (by omega)
  by_cases n2 : left - (x.f1.size : Int) - (x.f2.size : Int) < 0
  ·exact ⟨-1, Ev.congr (fun k => by simp only [laws_szNode.f, laws_szNode.F]; rw [e1, if_neg n1, e2, if_pos n2]) (Ev.now _), fun h => by omega⟩
  have e3 : wrap64 (left - (x.f1.size : Int) - (x.f2.size : Int) - (x.f3.size : Int)) = left - (x.f1.size : Int) - (x.f2.size : Int) - (x.f3.size : Int) := w64 (by omega) (by omega)
  by_cases n3 : left - (x.f1.size : Int) - (x.f2.size : Int) - (x.f3.size : Int) < 0
  ·exact ⟨-1, Ev.congr (fun k => by simp only [laws_szNode.f, laws_szNode.F]; rw [e1, if_neg n1, e2, if_neg n2, e3, if_pos n3]) (Ev.now _), fun h => by omega⟩
  have hd : ∀ (r : Int) (g : Nat → Option Int), Ev (fun k => (laws_szDeclS.f k x.f4 (left - (x.f1.size : Int) - (x.f2.size : Int) - (x.f3.size : Int))).bind fun t108 => (if t108 < 0 then (some (-1)) else ((laws_szAttrS.f k x.f5 t108).bind fun t109 => (if t109 < 0 then (some (-1)) else ((laws_szNodeS.f k x.f6 t109).bind fun t110 => (if t110 < 0 then (some (-1)) else (if (wrap64 (t110 - (x.f7.size : Int))) < 0 then (some (-1)) else (some (wrap64 (t110 - (x.f7.size : Int))))))))))) r → Ev (fun k => laws_szNode.f k x.f0 x.f1 x.f2 x.f3 x.f4 x.f5 x.f6 x.f7 left) r := fun r g h =>
   Ev.congr (fun k => by simp only [laws_szNode.f, laws_szNode.F]; rw [e1, if_neg n1, e2, if_neg n2, e3, if_neg n3]) h
  obtain ⟨r4, hr4, hw4⟩ := szDeclS_f x.f4 s4 (left - (x.f1.size : Int) - (x.f2.size : Int) - (x.f3.size : Int)) (by omega) (by omega)
  by_cases n4 : r4 < 0
  ·exact ⟨-1, hd _ (fun _ => none) (Ev.bind hr4 (Ev.congr (fun k => by rw [if_pos n4]) (Ev.now _))), fun h => by omega⟩
  have w4 := hw4 (by omega)
  obtain ⟨r5, hr5, hw5⟩ := szAttrS_f x.f5 s5 r4 (by omega) (by omega)
  by_cases n5 : r5 < 0
  ·exact ⟨-1, hd _ (fun _ => none) (Ev.bind hr4 (Ev.congr (fun k => by rw [if_neg n4]) (Ev.bind hr5 (Ev.congr (fun k => by rw [if_pos n5]) (Ev.now _))))), fun h => by omega⟩
  have w5 := hw5 (by omega)
  obtain ⟨r6, hr6, hw6⟩ := szNodeS_of x.f6 g6 (fun y hy => ih y hy (s6 y hy)) r5 (by omega) (by omega)
  by_cases n6 : r6 < 0
  ·exact ⟨-1, hd _ (fun _ => none) (Ev.bind hr4 (Ev.congr (fun k => by rw [if_neg n4]) (Ev.bind hr5 (Ev.congr (fun k => by rw [if_neg n5]) (Ev.bind hr6 (Ev.congr (fun k => by rw [if_pos n6]) (Ev.now _))))))), fun h => by omega⟩
  have w6 := hw6 (by omega)
  have e7 : wrap64 (r6 - (x.f7.size : Int)) = r6 - (x.f7.size : Int) := w64 (by omega) (by omega)
  by_cases n7 : r6 - (x.f7.size : Int) < 0
  ·exact ⟨-1, hd _ (fun _ => none) (Ev.bind hr4 (Ev.congr (fun k => by rw [if_neg n4]) (Ev.bind hr5 (Ev.congr (fun k => by rw [if_neg n5]) (Ev.bind hr6 (Ev.congr (fun k => by rw [if_neg n6, e7, if_pos n7]) (Ev.now _))))))), fun h => by omega⟩
  ·exact ⟨r6 - (x.f7.size : Int), hd _ (fun _ => none) (Ev.bind hr4 (Ev.congr (fun k => by rw [if_neg n4]) (Ev.bind hr5 (Ev.congr (fun k => by rw [if_neg n5]) (Ev.bind hr6 (Ev.congr (fun k => by rw [if_neg n6, e7, if_neg n7]) (Ev.now _))))))), fun h => by omega⟩
theorem toNodeS_of (l : List S38) (hl : l.length ≤ 1048576) (hx : ∀ x ∈ l, Ev (fun k => laws_toNode.f k x.f0 x.f1 x.f2 x.f3 x.f4 x.f5 x.f6 x.f7) (x.f0, x.f1, x.f2, x.f3, x.f4.map cDe, x.f5.map cAt, x.f6.map cNo, x.f7)) : Ev (fun k => laws_toNodeS.f k l) (l.map cNo) := by
 have h := copy_all (l := l) (f := cNo) (G := fun k x i => laws_toNodeS.l0 k l x i) (H := fun k i => (laws_toNode.f k (rd_T38 l (i : Int)).f0 (rd_T38 l (i : Int)).f1 (rd_T38 l (i : Int)).f2 (rd_T38 l (i : Int)).f3 (rd_T38 l (i : Int)).f4 (rd_T38 l (i : Int)).f5 (rd_T38 l (i : Int)).f6 (rd_T38 l (i : Int)).f7).bind fun q => some (⟨q.1, q.2.1, q.2.2.1, q.2.2.2.1, q.2.2.2.2.1, q.2.2.2.2.2.1, q.2.2.2.2.2.2.1, q.2.2.2.2.2.2.2⟩ : S44)) (List.replicate l.length z44) (by simp)
  (fun k x i hx hi => by
   simp only [laws_toNodeS.l0]
   rw [if_pos (by omega), if_pos (by omega), w64 (by omega) (by omega), Int.toNat_natCast, Option.bind_assoc]
   simp only [Option.bind_some]
   simp only [show (i : Int) < (x.length : Int) from by omega, if_true]
   rfl)
  (fun i hi => by
   rw [rd_LNode l i hi]
   refine Ev.bind (hx l[i] (List.getElem_mem hi)) ?_
   rw [convNode_eq]
   exact Ev.now _) (fun k x hx => by simp only [laws_toNodeS.l0]; rw [if_neg (by omega)])
 refine Ev.step (fun k => ?_) h
 simp only [laws_toNodeS.f, Int.toNat_natCast]
 rw [if_pos (by omega), if_pos (by omega)]
theorem toNode_f (x : S38) : wNode x ≤ 1048576 → Ev (fun k => laws_toNode.f k x.f0 x.f1 x.f2 x.f3 x.f4 x.f5 x.f6 x.f7) (x.f0, x.f1, x.f2, x.f3, x.f4.map cDe, x.f5.map cAt, x.f6.map cNo, x.f7) := by
 induction x using indL with
 | h x ih =>
  intro hw
  obtain ⟨b4, b5, b6, _, bk⟩ := wNode_bounds x
  refine Ev.congr (g := fun k => laws_toNode.f k x.f0 x.f1 x.f2 x.f3 x.f4 x.f5 x.f6 x.f7) (f := fun k => (laws_toDeclS.f k x.f4).bind fun d => (laws_toAttrS.f k x.f5).bind fun a => (laws_toNodeS.f k x.f6).bind fun n => some (x.f0, x.f1, x.f2, x.f3, d, a, n, x.f7)) (fun k => rfl) ?_
  refine Ev.bind (toDeclS_f x.f4 (by omega)) (Ev.bind (toAttrS_f x.f5 (by omega)) (Ev.bind (toNodeS_of x.f6 (by omega) (fun y hy => ih y hy (by have := bk y hy; omega))) (Ev.now _)))
theorem eqNodeS_of (l : List S44) (hl : l.length ≤ 1048576) (hx : ∀ x ∈ l, Ev (fun k => laws_eqNode.f k x.f0 x.f1 x.f2 x.f3 x.f4 x.f5 x.f6 x.f7 x.f0 x.f1 x.f2 x.f3 x.f4 x.f5 x.f6 x.f7) true) : Ev (fun k => laws_eqNodeS.f k l l) true := by
 have h := all_all (n := l.length) (G := fun k i => laws_eqNodeS.l0 k l l i) (H := fun k i => laws_eqNode.f k (rd_T44 l (i : Int)).f0 (rd_T44 l (i : Int)).f1 (rd_T44 l (i : Int)).f2 (rd_T44 l (i : Int)).f3 (rd_T44 l (i : Int)).f4 (rd_T44 l (i : Int)).f5 (rd_T44 l (i : Int)).f6 (rd_T44 l (i : Int)).f7 (rd_T44 l (i : Int)).f0 (rd_T44 l (i : Int)).f1 (rd_T44 l (i : Int)).f2 (rd_T44 l (i : Int)).f3 (rd_T44 l (i : Int)).f4 (rd_T44 l (i : Int)).f5 (rd_T44 l (i : Int)).f6 (rd_T44 l (i : Int)).f7)
  (fun k i hi => by simp only [laws_eqNodeS.l0]; rw [if_pos (by omega), if_pos (by omega), if_pos (by omega), w64 (by omega) (by omega)]; rfl)
  (fun i hi => by rw [rd_INode l i hi]; exact hx l[i] (List.getElem_mem hi)) (fun k => by simp only [laws_eqNodeS.l0]; rw [if_neg (by omega)])
 refine Ev.step (fun k => ?_) h
 simp only [laws_eqNodeS.f]
 rw [if_pos trivial]
theorem eqNode_f (x : S44) : vNode x ≤ 1048576 → Ev (fun k => laws_eqNode.f k x.f0 x.f1 x.f2 x.f3 x.f4 x.f5 x.f6 x.f7 x.f0 x.f1 x.f2 x.f3 x.f4 x.f5 x.f6 x.f7) true := by
 induction x using indI with
 | h x ih =>
  intro hw
  obtain ⟨b4, b5, b6, _, bk⟩ := vNode_bounds x
  refine Ev.congr (f := fun k => (laws_eqDeclS.f k x.f4 x.f4).bind fun t => (if t = true then ((laws_eqAttrS.f k x.f5 x.f5).bind fun t => (if t = true then ((laws_eqNodeS.f k x.f6 x.f6).bind fun t => (if t = true then some true else some false)) else (some false))) else (some false))) (fun k => by simp [laws_eqNode.f, laws_eqNode.F]) ?_
  refine Ev.bind (eqDeclS_f x.f4 (by omega)) (Ev.congr (fun k => by rw [if_pos rfl]) (Ev.bind (eqAttrS_f x.f5 (by omega)) (Ev.congr (fun k => by rw [if_pos rfl]) (Ev.bind (eqNodeS_of x.f6 (by omega) (fun y hy => ih y hy (by have := bk y hy; omega))) (Ev.congr (fun k => by rw [if_pos rfl]) (Ev.now _))))))
def allEq {α : Type} (ne : α → α → Bool) : List α → List α → Bool
 | x :: xs, y :: ys => !ne x y && allEq ne xs ys
 | _, _ => true
theorem walk_eq {α : Type} {ne : α → α → Bool} {l m : List α} {G : Nat → Int → Option Bool} {E : Nat → Option Bool} {re : Bool} (hlen : l.length = m.length)
  (hs : ∀ k (i : Nat) (h : i < l.length) (h' : i < m.length), G (k + 1) (i : Int) = if ne l[i] m[i] = true then some false else G k ((i + 1 : Nat) : Int))
  (he : ∀ k, G (k + 1) (l.length : Int) = E k) (hE : Ev E re) (d : Nat) : ∀ i : Nat, i ≤ l.length → l.length - i = d → Ev (fun k => G k (i : Int)) (if allEq ne (l.drop i) (m.drop i) = true then re else false) := by
 induction d with
 | zero =>
  intro i hi hd
  have e : i = l.length := by omega
  subst e
  rw [List.drop_length, hlen, List.drop_length, ← hlen]
  exact Ev.step he hE
 | succ d ih =>
  intro i hi hd
  have hlt : i < l.length := by omega
  have hlt' : i < m.length := by omega
  have e1 : allEq ne (l.drop i) (m.drop i) = (!ne l[i] m[i] && allEq ne (l.drop (i + 1)) (m.drop (i + 1))) := by
   rw [List.drop_eq_getElem_cons hlt, List.drop_eq_getElem_cons hlt']
   rfl
  by_cases c : ne l[i] m[i] = true
  ·have e2 : allEq ne (l.drop i) (m.drop i) = false := by
    rw [e1, c]
    rfl
   rw [e2, if_neg (by simp)]
   exact Ev.step (fun k => hs k i hlt hlt') (Ev.congr (fun k => by rw [if_pos c]) (Ev.now _))
  ·have c' : ne l[i] m[i] = false := by simpa using c
   have e2 : allEq ne (l.drop i) (m.drop i) = allEq ne (l.drop (i + 1)) (m.drop (i + 1)) := by
    rw [e1, c']
    rfl
   rw [e2]
   exact Ev.step (fun k => hs k i hlt hlt') (Ev.congr (fun k => by rw [if_neg c]) (ih (i + 1) (by omega) (by omega)))
theorem rd_IAttr3 (l : List S87) (i : Nat) (h : i < l.length) : rd_T87 l (i : Int) = l[i] := by simp [rd_T87, List.getD_eq_getElem?_getD, List.getElem?_eq_getElem h]
def neD (a b : S76) : Bool := (!((a.f0.toList) == (b.f0.toList)) || (!((a.f1.toList) == (b.f1.toList))))
def neA (a b : S87) : Bool := (!((a.f0.toList) == (b.f0.toList)) || (!((a.f1.toList) == (b.f1.toList)) || (!((a.f2.toList) == (b.f2.toList)) || (!((a.f3.toList) == (b.f3.toList))))))
theorem implDecls_f (l m : List S76) (hl : l.length ≤ 1048576) (hlen : l.length = m.length) : Ev (fun k => impl_Decl.f k l m) (allEq neD l m) := by
 have h := walk_eq (ne := neD) (G := fun k i => impl_Decl.l0 k l m (l.length : Int) i) (E := fun _ => some true) hlen (fun k i h h' => by
   simp only [impl_Decl.l0]
   rw [if_pos (by omega), if_pos (by omega), if_pos (by omega), if_pos (by omega), rd_IDecl l i h, rd_IDecl m i h', w64 (by omega) (by omega)]
   rfl) (fun k => by simp only [impl_Decl.l0]; rw [if_neg (by omega)]) (Ev.now true) l.length 0 (by omega) (by omega)
 refine Ev.congr (fun k => by unfold impl_Decl.f; rw [if_pos (by omega)]) ?_
 simpa using h
theorem implAttrs_f (l m : List S87) (hl : l.length ≤ 1048576) (hlen : l.length = m.length) : Ev (fun k => impl_Attr.f k l m) (allEq neA l m) := by
 have h := walk_eq (ne := neA) (G := fun k i => impl_Attr.l0 k l m (l.length : Int) i) (E := fun _ => some true) hlen (fun k i h h' => by
   simp only [impl_Attr.l0]
   rw [if_pos (by omega), if_pos (by omega), if_pos (by omega), if_pos (by omega), rd_IAttr3 l i h, rd_IAttr3 m i h', w64 (by omega) (by omega)]
   rfl) (fun k => by simp only [impl_Attr.l0]; rw [if_neg (by omega)]) (Ev.now true) l.length 0 (by omega) (by omega)
 refine Ev.congr (fun k => by unfold impl_Attr.f; rw [if_pos (by omega)]) ?_
 simpa using h
theorem same_kids (x y : S44) (hl : x.f6.length ≤ 1048576) (hlen : x.f6.length = y.f6.length)
  (hk : ∀ a ∈ x.f6, ∀ b ∈ y.f6, ∃ r, Ev (fun k => spec_SameNode.f k a.f0 a.f1 a.f2 a.f3 a.f4 a.f5 a.f6 a.f7 b.f0 b.f1 b.f2 b.f3 b.f4 b.f5 b.f6 b.f7) r ∧ Ev (fun k => impl_SameNode.f k a.f0 a.f1 a.f2 a.f3 a.f4 a.f5 a.f6 a.f7 b.f0 b.f1 b.f2 b.f3 b.f4 b.f5 b.f6 b.f7) r) (d : Nat) :
  ∀ i : Nat, i ≤ x.f6.length → x.f6.length - i = d → ∃ r, Ev (fun k => spec_SameNode.l2 k (i : Int) x.f0 x.f1 x.f2 x.f3 x.f4 x.f5 x.f6 x.f7 y.f0 y.f1 y.f2 y.f3 y.f4 y.f5 y.f6 y.f7) r ∧
   Ev (fun k => impl_Node.all (fun a b => impl_SameNode.f k a.f0 a.f1 a.f2 a.f3 a.f4 a.f5 a.f6 a.f7 b.f0 b.f1 b.f2 b.f3 b.f4 b.f5 b.f6 b.f7) (x.f6.drop i) (y.f6.drop i)) r := by
 induction d with
 | zero =>
  intro i hi hd
  refine ⟨true, Ev.step (fun k => ?_) (Ev.now _), Ev.congr (fun k => ?_) (Ev.now _)⟩
  ·simp only [spec_SameNode.l2]
   rw [if_neg (by omega)]
  ·rw [List.drop_eq_nil_of_le (by omega), List.drop_eq_nil_of_le (by omega)]
   rfl
 | succ d ih =>
  intro i hi hd
  have hlt : i < x.f6.length := by omega
  have hlt' : i < y.f6.length := by omega
  have w1 : wrap64 ((i : Int) + 1) = ((i + 1 : Nat) : Int) := by rw [w64 (by omega) (by omega)]; omega
  obtain ⟨b, b1, b2⟩ := hk x.f6[i] (List.getElem_mem hlt) y.f6[i] (List.getElem_mem hlt')
  have hs : ∀ k, spec_SameNode.l2 (k + 1) (i : Int) x.f0 x.f1 x.f2 x.f3 x.f4 x.f5 x.f6 x.f7 y.f0 y.f1 y.f2 y.f3 y.f4 y.f5 y.f6 y.f7 = (spec_SameNode.f k x.f6[i].f0 x.f6[i].f1 x.f6[i].f2 x.f6[i].f3 x.f6[i].f4 x.f6[i].f5 x.f6[i].f6 x.f6[i].f7 y.f6[i].f0 y.f6[i].f1 y.f6[i].f2 y.f6[i].f3 y.f6[i].f4 y.f6[i].f5 y.f6[i].f6 y.f6[i].f7).bind fun t => if t = true then spec_SameNode.l2 k ((i + 1 : Nat) : Int) x.f0 x.f1 x.f2 x.f3 x.f4 x.f5 x.f6 x.f7 y.f0 y.f1 y.f2 y.f3 y.f4 y.f5 y.f6 y.f7 else some false := fun k => by
   simp only [spec_SameNode.l2]
   rw [if_pos (by omega), if_pos (by omega), if_pos (by omega), rd_INode x.f6 i hlt, rd_INode y.f6 i hlt', w1]
  have hi' : ∀ k, impl_Node.all (fun a b => impl_SameNode.f k a.f0 a.f1 a.f2 a.f3 a.f4 a.f5 a.f6 a.f7 b.f0 b.f1 b.f2 b.f3 b.f4 b.f5 b.f6 b.f7) (x.f6.drop i) (y.f6.drop i) = (impl_SameNode.f k x.f6[i].f0 x.f6[i].f1 x.f6[i].f2 x.f6[i].f3 x.f6[i].f4 x.f6[i].f5 x.f6[i].f6 x.f6[i].f7 y.f6[i].f0 y.f6[i].f1 y.f6[i].f2 y.f6[i].f3 y.f6[i].f4 y.f6[i].f5 y.f6[i].f6 y.f6[i].f7).bind fun t => if t = true then impl_Node.all (fun a b => impl_SameNode.f k a.f0 a.f1 a.f2 a.f3 a.f4 a.f5 a.f6 a.f7 b.f0 b.f1 b.f2 b.f3 b.f4 b.f5 b.f6 b.f7) (x.f6.drop (i + 1)) (y.f6.drop (i + 1)) else some false := fun k => by
   rw [List.drop_eq_getElem_cons hlt, List.drop_eq_getElem_cons hlt']
   rfl
  cases b with
  | false =>
   exact ⟨false, Ev.step hs (Ev.bind b1 (Ev.congr (fun k => by rw [if_neg (by simp)]) (Ev.now _))), Ev.congr hi' (Ev.bind b2 (Ev.congr (fun k => by rw [if_neg (by simp)]) (Ev.now _)))⟩
  | true =>
   obtain ⟨r, r1, r2⟩ := ih (i + 1) (by omega) (by omega)
   exact ⟨r, Ev.step hs (Ev.bind b1 (Ev.congr (fun k => by rw [if_pos rfl]) r1)), Ev.congr hi' (Ev.bind b2 (Ev.congr (fun k => by rw [if_pos rfl]) r2))⟩
theorem same_both (x : S44) : ∀ y : S44, vNode x ≤ 1048576 → vNode y ≤ 1048576 →
  ∃ r, Ev (fun k => spec_SameNode.f k x.f0 x.f1 x.f2 x.f3 x.f4 x.f5 x.f6 x.f7 y.f0 y.f1 y.f2 y.f3 y.f4 y.f5 y.f6 y.f7) r ∧ Ev (fun k => impl_SameNode.f k x.f0 x.f1 x.f2 x.f3 x.f4 x.f5 x.f6 x.f7 y.f0 y.f1 y.f2 y.f3 y.f4 y.f5 y.f6 y.f7) r := by
 induction x using indI with
 | h x ih =>
  intro y hx hy
  obtain ⟨x4, x5, x6, _, xk⟩ := vNode_bounds x
  obtain ⟨y4, y5, y6, _, yk⟩ := vNode_bounds y
  -- the tests ahead
  have no : (∀ k, spec_SameNode.f (k + 2) x.f0 x.f1 x.f2 x.f3 x.f4 x.f5 x.f6 x.f7 y.f0 y.f1 y.f2 y.f3 y.f4 y.f5 y.f6 y.f7 = some false) → Ev (fun k => impl_sameAlone.f k x.f0 x.f1 x.f2 x.f3 x.f4 x.f5 x.f6 x.f7 y.f0 y.f1 y.f2 y.f3 y.f4 y.f5 y.f6 y.f7) false →
    ∃ r, Ev (fun k => spec_SameNode.f k x.f0 x.f1 x.f2 x.f3 x.f4 x.f5 x.f6 x.f7 y.f0 y.f1 y.f2 y.f3 y.f4 y.f5 y.f6 y.f7) r ∧ Ev (fun k => impl_SameNode.f k x.f0 x.f1 x.f2 x.f3 x.f4 x.f5 x.f6 x.f7 y.f0 y.f1 y.f2 y.f3 y.f4 y.f5 y.f6 y.f7) r := fun h1 h2 =>
   ⟨false, Ev.step (fun k => rfl) (Ev.step h1 (Ev.now false)), Ev.step (fun k => by simp only [impl_SameNode.f]; rfl) (Ev.bind h2 (Ev.congr (fun k => by rw [if_neg (by simp)]) (Ev.now _)))⟩
  by_cases h0 : x.f0 = y.f0
  rotate_left
  ·exact no (fun k => by simp only [spec_SameNode.f, spec_SameNode.j0]; rw [if_neg h0]; rfl) (Ev.congr (fun k => by unfold impl_sameAlone.f; rw [if_neg h0]) (Ev.now _))
  by_cases h1 : x.f1.toList = y.f1.toList
  rotate_left
  ·exact no (fun k => by simp only [spec_SameNode.f, spec_SameNode.j0]; rw [if_pos h0, if_neg h1]; rfl) (Ev.congr (fun k => by unfold impl_sameAlone.f; rw [if_pos h0, if_neg h1]) (Ev.now _))
  by_cases h2 : x.f2.toList = y.f2.toList
  rotate_left
  ·exact no (fun k => by simp only [spec_SameNode.f, spec_SameNode.j0]; rw [if_pos h0, if_pos h1, if_neg h2]; rfl) (Ev.congr (fun k => by unfold impl_sameAlone.f; rw [if_pos h0, if_pos h1, if_neg h2]) (Ev.now _))
  by_cases h3 : x.f3.toList = y.f3.toList
  rotate_left
  ·exact no (fun k => by simp only [spec_SameNode.f, spec_SameNode.j0]; rw [if_pos h0, if_pos h1, if_pos h2, if_neg h3]; rfl) (Ev.congr (fun k => by unfold impl_sameAlone.f; rw [if_pos h0, if_pos h1, if_pos h2, if_neg h3]) (Ev.now _))
  by_cases h7 : x.f7.toList = y.f7.toList
  rotate_left
  ·exact no (fun k => by simp only [spec_SameNode.f, spec_SameNode.j0]; rw [if_pos h0, if_pos h1, if_pos h2, if_pos h3, if_neg h7]; rfl) (Ev.congr (fun k => by unfold impl_sameAlone.f; rw [if_pos h0, if_pos h1, if_pos h2, if_pos h3, if_neg h7]) (Ev.now _))
  have alone : ∀ r, Ev (fun k => (impl_Decl.f k x.f4 y.f4).bind fun t => if t = true then ((impl_Attr.f k x.f5 y.f5).bind fun u => some u) else some false) r → Ev (fun k => impl_sameAlone.f k x.f0 x.f1 x.f2 x.f3 x.f4 x.f5 x.f6 x.f7 y.f0 y.f1 y.f2 y.f3 y.f4 y.f5 y.f6 y.f7) r := fun r h =>
   Ev.congr (fun k => by unfold impl_sameAlone.f; rw [if_pos h0, if_pos h1, if_pos h2, if_pos h3, if_pos h7]) h
  by_cases h4 : (x.f4.length : Int) = (y.f4.length : Int)
  rotate_left
  ·refine no (fun k => by simp only [spec_SameNode.f, spec_SameNode.j0]; rw [if_pos h0, if_pos h1, if_pos h2, if_pos h3, if_pos h7, if_neg h4]; rfl) (alone _ (Ev.bind (a := false) (Ev.congr (fun k => by unfold impl_Decl.f; rw [if_neg h4]) (Ev.now _)) (Ev.congr (fun k => by rw [if_neg (by simp)]) (Ev.now _))))
  have hD := implDecls_f x.f4 y.f4 (by omega) (by omega)
  by_cases h5 : (x.f5.length : Int) = (y.f5.length : Int)
  rotate_left
  ·have hA : Ev (fun k => impl_Attr.f k x.f5 y.f5) false := Ev.congr (fun k => by unfold impl_Attr.f; rw [if_neg h5]) (Ev.now _)
   refine no (fun k => by simp only [spec_SameNode.f, spec_SameNode.j0]; rw [if_pos h0, if_pos h1, if_pos h2, if_pos h3, if_pos h7, if_pos h4, if_neg h5]; rfl) (alone _ (Ev.bind hD ?_))
   by_cases c : allEq neD x.f4 y.f4 = true
   ·exact Ev.congr (fun k => by rw [if_pos c]) (Ev.bind hA (Ev.now _))
   ·exact Ev.congr (fun k => by rw [if_neg c]) (Ev.now _)
  have hA := implAttrs_f x.f5 y.f5 (by omega) (by omega)
  have hT : Ev (fun k => impl_sameAlone.f k x.f0 x.f1 x.f2 x.f3 x.f4 x.f5 x.f6 x.f7 y.f0 y.f1 y.f2 y.f3 y.f4 y.f5 y.f6 y.f7) (if allEq neD x.f4 y.f4 = true then allEq neA x.f5 y.f5 else false) := by
   refine alone _ (Ev.bind hD ?_)
   by_cases c : allEq neD x.f4 y.f4 = true
   ·rw [if_pos c]
    exact Ev.congr (fun k => by rw [if_pos c]) (Ev.bind hA (Ev.now _))
   ·rw [if_neg c]
    exact Ev.congr (fun k => by rw [if_neg c]) (Ev.now _)
  by_cases h6 : x.f6.length = y.f6.length
  rotate_left
  ·have h6b : ((x.f6.length : Int) != (y.f6.length : Int)) = true := bne_iff_ne.mpr (by omega)
   refine ⟨false, Ev.step (fun k => rfl) (Ev.step (g := fun k => spec_SameNode.f (k + 1) x.f0 x.f1 x.f2 x.f3 x.f4 x.f5 x.f6 x.f7 y.f0 y.f1 y.f2 y.f3 y.f4 y.f5 y.f6 y.f7) (f := fun _ => some false) (fun k => by simp only [spec_SameNode.f, spec_SameNode.j0]; rw [if_pos h0, if_pos h1, if_pos h2, if_pos h3, if_pos h7, if_pos h4, if_pos h5, h6b]; rfl) (Ev.now _)), Ev.step (fun k => by simp only [impl_SameNode.f]; rfl) (Ev.bind hT ?_)⟩
   generalize (if allEq neD x.f4 y.f4 = true then allEq neA x.f5 y.f5 else false) = t
   by_cases c : t = true
   ·refine Ev.congr (fun k => by rw [if_pos c]; unfold impl_Node.f; rw [if_neg h6]) (Ev.now _)
   ·exact Ev.congr (fun k => by rw [if_neg c]) (Ev.now _)
  have h6b : ((x.f6.length : Int) != (y.f6.length : Int)) = false := by simp [h6]
  obtain ⟨rk, k1, k2⟩ := same_kids x y (by omega) h6 (fun a ha b hb => ih a ha b (by have := xk a ha; omega) (by have := yk b hb; omega)) x.f6.length 0 (by omega) (by omega)
  rw [List.drop_zero, List.drop_zero] at k2
  have s1 := walk_eq (ne := neA) (l := x.f5) (m := y.f5) (G := fun k i => spec_SameNode.l1 k i x.f0 x.f1 x.f2 x.f3 x.f4 x.f5 x.f6 x.f7 y.f0 y.f1 y.f2 y.f3 y.f4 y.f5 y.f6 y.f7) (by omega) (fun k i h h' => by
   simp only [spec_SameNode.l1]
   rw [if_pos (by omega), if_pos (by omega), if_pos (by omega), rd_IAttr3 x.f5 i h, rd_IAttr3 y.f5 i h', w64 (by omega) (by omega)]
   rfl) (fun k => by simp only [spec_SameNode.l1]; rw [if_neg (by omega)]; rfl) k1 x.f5.length 0 (by omega) (by omega)
  have s0 := walk_eq (ne := neD) (l := x.f4) (m := y.f4) (G := fun k i => spec_SameNode.l0 k i x.f0 x.f1 x.f2 x.f3 x.f4 x.f5 x.f6 x.f7 y.f0 y.f1 y.f2 y.f3 y.f4 y.f5 y.f6 y.f7) (by omega) (fun k i h h' => by
   simp only [spec_SameNode.l0]
   rw [if_pos (by omega), if_pos (by omega), if_pos (by omega), rd_IDecl x.f4 i h, rd_IDecl y.f4 i h', w64 (by omega) (by omega)]
   rfl) (fun k => by simp only [spec_SameNode.l0]; rw [if_neg (by omega)]; rfl) s1 x.f4.length 0 (by omega) (by omega)
  rw [List.drop_zero, List.drop_zero] at s0 s1
  refine ⟨if allEq neD x.f4 y.f4 = true then (if allEq neA x.f5 y.f5 = true then rk else false) else false, Ev.step (fun k => rfl) (Ev.step (g := fun k => spec_SameNode.f (k + 1) x.f0 x.f1 x.f2 x.f3 x.f4 x.f5 x.f6 x.f7 y.f0 y.f1 y.f2 y.f3 y.f4 y.f5 y.f6 y.f7) (fun k => by simp only [spec_SameNode.f, spec_SameNode.j0]; rw [if_pos h0, if_pos h1, if_pos h2, if_pos h3, if_pos h7, if_pos h4, if_pos h5, h6b, if_neg (by simp)]; rfl) s0), Ev.step (fun k => by simp only [impl_SameNode.f]; rfl) (Ev.bind hT ?_)⟩
  by_cases c : allEq neD x.f4 y.f4 = true
  ·rw [if_pos c, if_pos c]
   by_cases c2 : allEq neA x.f5 y.f5 = true
   ·rw [if_pos c2]
    exact Ev.congr (fun k => by rw [if_pos c2]; unfold impl_Node.f; rw [if_pos h6]) k2
   ·rw [if_neg c2]
    exact Ev.congr (fun k => by rw [if_neg c2]) (Ev.now _)
  ·rw [if_neg c, if_neg c]
   exact Ev.congr (fun k => by rw [if_neg (by simp)]) (Ev.now _)
theorem FnExactSameNode : laws_FnExactSameNode.Pure := by
 intro x y hw hv
 obtain ⟨r, hr, hrw⟩ := szNode_f x hw 1048576 (by omega) (by omega)
 refine Ev.rounds (r := true) ?_
 refine Ev.congr (fun k => by simp only [laws_FnExactSameNode.f]; rfl) (Ev.bind hr ?_)
 by_cases hn : r < 0
 ·exact Ev.congr (fun k => by rw [if_pos hn]) (Ev.now _)
 have hnx := wNode_n x
 have hny := wNode_n y
 have hrw' := hrw (by omega)
 obtain ⟨r2, hr2, hrw2⟩ := szNode_f y hv r (by omega) (by omega)
 refine Ev.congr (fun k => by rw [if_neg hn]) (Ev.bind hr2 ?_)
 by_cases hn2 : r2 < 0
 ·exact Ev.congr (fun k => by rw [if_pos hn2]) (Ev.now _)
 have hrw2' := hrw2 (by omega)
 have hvx := vNode_conv x
 have hvy := vNode_conv y
 have ht := toNode_f x (by omega)
 have hu := toNode_f y (by omega)
 have hex := eqNode_f (cNo x) (by omega)
 have hey := eqNode_f (cNo y) (by omega)
 obtain ⟨c, hs, hi⟩ := same_both (cNo x) (cNo y) (by omega) (by omega)
 rw [convNode_eq x, convNode_eq y] at hs hi
 rw [convNode_eq] at hex hey
 refine Ev.congr (fun k => by rw [if_neg hn2]) (Ev.bind ht (Ev.bind hu (Ev.bind hs (Ev.bind ht (Ev.bind hu (Ev.bind hi ?_))))))
 refine Ev.congr (fun k => by rw [if_neg (by simp)]) (Ev.bind ht ?_)
 refine Ev.bind hex ?_
 refine Ev.congr (fun k => by rw [if_pos rfl]) (Ev.bind hu ?_)
 refine Ev.bind hey ?_
 exact Ev.congr (fun k => by rw [if_pos rfl]) (Ev.now _)

end FnExactSameNode_
theorem FnExactSameNode : laws_FnExactSameNode.Pure := FnExactSameNode_.FnExactSameNode
end Go.Proofs.Ytehlkajccnmddaa.Pure
