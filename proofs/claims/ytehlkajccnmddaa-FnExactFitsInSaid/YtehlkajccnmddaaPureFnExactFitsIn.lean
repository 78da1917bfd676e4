/- The program's FitsIn (closures, slices.ContainsFunc, slices.Concat) and the reference's loops answer alike at every tree and list of bindings; both read as they did.
Conditions: none. -/
import Derived.Test.YtehlkajccnmddaaSaidFnExactFitsIn
import Derived.Test.YtehlkajccnmddaaLists
namespace Go.Proofs.Ytehlkajccnmddaa.Pure
open Go.RowKit Go.Proofs.Ytehlkajccnmddaa.PF Go.Proofs.YtehlkajccnmddaaW.PrintWords Go.Proofs.YtehlkajccnmddaaW.PrintLast Go.Proofs.Ytehlkajccnmddaa.Lists
set_option linter.unusedVariables false
set_option linter.unusedSimpArgs false

namespace FnExactFitsIn_
theorem rd_LDecl (l : List S75) (i : Nat) (h : i < l.length) : rd_T75 l (i : Int) = l[i] := by simp [rd_T75, List.getD_eq_getElem?_getD, List.getElem?_eq_getElem h]
theorem rd_IDecl (l : List S76) (i : Nat) (h : i < l.length) : rd_T76 l (i : Int) = l[i] := by simp [rd_T76, List.getD_eq_getElem?_getD, List.getElem?_eq_getElem h]
def cDe (x : S75) : S76 := ⟨x.f0, x.f1⟩
theorem eqDecl_f (x : S76) : laws_eqDecl.f x.f0 x.f1 x.f0 x.f1 = some true := by
 unfold laws_eqDecl.f
 simp
def wDecl (x : S75) : Int := (x.f0.size : Int) + (x.f1.size : Int)
theorem wDecl_n (x : S75) : 0 ≤ wDecl x := by unfold wDecl; omega
theorem szDecl_f (x : S75) (left : Int) (hw : WF75 x) (h0 : 0 ≤ left) (h1 : left ≤ 1048576) : ∃ r, laws_szDecl.f x.f0 x.f1 left = some r ∧ (0 ≤ r → r + wDecl x = left) := by
 obtain ⟨h_0, h_1⟩ := hw
 unfold maxLen at h_0 h_1
 unfold laws_szDecl.f wrap64 wDecl
 split
 ·exact ⟨_, rfl, by omega⟩
 split
 ·exact ⟨_, rfl, by omega⟩
 exact ⟨_, rfl, fun _ => by omega⟩
theorem szDeclS_f (l : List S75) (hw : l.length ≤ maxLen ∧ ∀ x ∈ l, WF75 x) (left : Int) (h0 : 0 ≤ left) (h1 : left ≤ 1048576) : ∃ r, Ev (fun k => laws_szDeclS.f k l left) r ∧ (0 ≤ r → r + ((l.length : Int) + sumOf wDecl l) = left) := by
 obtain ⟨hl, hw⟩ := hw
 unfold maxLen at hl
 have e : wrap64 (left - (l.length : Int)) = left - (l.length : Int) := w64 (by omega) (by omega)
 by_cases hn : left - (l.length : Int) < 0
 ·exact ⟨-1, Ev.congr (fun k => by simp only [laws_szDeclS.f]; rw [e, if_pos hn]) (Ev.now _), fun h => by omega⟩
 ·obtain ⟨r, hr, hrw⟩ := size_all (l := l) (w := wDecl) (M := 1048576) (G := fun k left i => laws_szDeclS.l0 k l left i) (H := fun _ left i => laws_szDecl.f (rd_T75 l (i : Int)).f0 (rd_T75 l (i : Int)).f1 left) wDecl_n
   (fun k left i h0 hi => by simp only [laws_szDeclS.l0]; rw [if_pos (by omega), if_pos (by omega), w64 (by omega) (by omega)])
   (fun i hi left h0 h1 => by
    obtain ⟨r, a, b⟩ := szDecl_f l[i] left (hw _ (List.getElem_mem hi)) h0 h1
    exact ⟨r, Ev.congr (fun k => by rw [rd_LDecl l i hi]; exact a) (Ev.now r), b⟩)
   (fun k left h0 => by simp only [laws_szDeclS.l0]; rw [if_neg (by omega)]) (left - (l.length : Int)) (by omega) (by omega)
  exact ⟨r, Ev.congr (fun k => by simp only [laws_szDeclS.f]; rw [e, if_neg hn]) hr, fun h => by have := hrw h; omega⟩
theorem toDeclS_f (l : List S75) (hl : l.length ≤ 1048576) : Ev (fun k => laws_toDeclS.f k l) (l.map cDe) := by
 have h := copy_all (l := l) (f := cDe) (G := fun k x i => laws_toDeclS.l0 k l x i) (H := fun _ i => some (cDe (rd_T75 l (i : Int)))) (List.replicate l.length z76) (by simp)
  (fun k x i hx hi => by
   simp only [laws_toDeclS.l0, laws_toDecl.f, Option.bind_some]
   rw [if_pos (by omega), if_pos (by omega), if_pos (by omega), w64 (by omega) (by omega), Int.toNat_natCast]
   rfl)
  (fun i hi => by rw [rd_LDecl l i hi]; exact Ev.now _) (fun k x hx => by simp only [laws_toDeclS.l0]; rw [if_neg (by omega)])
 refine Ev.congr (fun k => ?_) h
 simp only [laws_toDeclS.f, Int.toNat_natCast]
 rw [if_pos (by omega), if_pos (by omega)]
theorem eqDeclS_f (l : List S76) (hl : l.length ≤ 1048576) : Ev (fun k => laws_eqDeclS.f k l l) true := by
 have h := all_all (n := l.length) (G := fun k i => laws_eqDeclS.l0 k l l i) (H := fun _ i => laws_eqDecl.f (rd_T76 l (i : Int)).f0 (rd_T76 l (i : Int)).f1 (rd_T76 l (i : Int)).f0 (rd_T76 l (i : Int)).f1)
  (fun k i hi => by simp only [laws_eqDeclS.l0]; rw [if_pos (by omega), if_pos (by omega), if_pos (by omega), w64 (by omega) (by omega)])
  (fun i hi => Ev.congr (fun k => eqDecl_f _) (Ev.now true)) (fun k => by simp only [laws_eqDeclS.l0]; rw [if_neg (by omega)])
 refine Ev.congr (fun k => ?_) h
 simp only [laws_eqDeclS.f]
 rw [if_pos trivial]
theorem rd_LAttr (l : List S115) (i : Nat) (h : i < l.length) : rd_T115 l (i : Int) = l[i] := by simp [rd_T115, List.getD_eq_getElem?_getD, List.getElem?_eq_getElem h]
def cAt (x : S115) : S87 := ⟨x.f0, x.f1, x.f2, x.f3⟩
theorem eqAttr_f (x : S87) : laws_eqAttr.f x.f0 x.f1 x.f2 x.f3 x.f0 x.f1 x.f2 x.f3 = some true := by
 unfold laws_eqAttr.f
 simp
def wAttr (x : S115) : Int := (x.f0.size : Int) + (x.f1.size : Int) + (x.f2.size : Int) + (x.f3.size : Int)
theorem wAttr_n (x : S115) : 0 ≤ wAttr x := by unfold wAttr; omega
theorem szAttr_f (x : S115) (left : Int) (hw : WF115 x) (h0 : 0 ≤ left) (h1 : left ≤ 1048576) : ∃ r, laws_szAttr.f x.f0 x.f1 x.f2 x.f3 left = some r ∧ (0 ≤ r → r + wAttr x = left) := by
 obtain ⟨h_0, h_1, h_2, h_3⟩ := hw
 unfold maxLen at h_0 h_1 h_2 h_3
 unfold laws_szAttr.f wrap64 wAttr
 split
 ·exact ⟨_, rfl, by omega⟩
 split
 ·exact ⟨_, rfl, by omega⟩
 split
 ·exact ⟨_, rfl, by omega⟩
 split
 ·exact ⟨_, rfl, by omega⟩
 exact ⟨_, rfl, fun _ => by omega⟩
theorem szAttrS_f (l : List S115) (hw : l.length ≤ maxLen ∧ ∀ x ∈ l, WF115 x) (left : Int) (h0 : 0 ≤ left) (h1 : left ≤ 1048576) : ∃ r, Ev (fun k => laws_szAttrS.f k l left) r ∧ (0 ≤ r → r + ((l.length : Int) + sumOf wAttr l) = left) := by
 obtain ⟨hl, hw⟩ := hw
 unfold maxLen at hl
 have e : wrap64 (left - (l.length : Int)) = left - (l.length : Int) := w64 (by omega) (by omega)
 by_cases hn : left - (l.length : Int) < 0
 ·exact ⟨-1, Ev.congr (fun k => by simp only [laws_szAttrS.f]; rw [e, if_pos hn]) (Ev.now _), fun h => by omega⟩
 ·obtain ⟨r, hr, hrw⟩ := size_all (l := l) (w := wAttr) (M := 1048576) (G := fun k left i => laws_szAttrS.l0 k l left i) (H := fun _ left i => laws_szAttr.f (rd_T115 l (i : Int)).f0 (rd_T115 l (i : Int)).f1 (rd_T115 l (i : Int)).f2 (rd_T115 l (i : Int)).f3 left) wAttr_n
   (fun k left i h0 hi => by simp only [laws_szAttrS.l0]; rw [if_pos (by omega), if_pos (by omega), w64 (by omega) (by omega)])
   (fun i hi left h0 h1 => by
    obtain ⟨r, a, b⟩ := szAttr_f l[i] left (hw _ (List.getElem_mem hi)) h0 h1
    exact ⟨r, Ev.congr (fun k => by rw [rd_LAttr l i hi]; exact a) (Ev.now r), b⟩)
   (fun k left h0 => by simp only [laws_szAttrS.l0]; rw [if_neg (by omega)]) (left - (l.length : Int)) (by omega) (by omega)
  exact ⟨r, Ev.congr (fun k => by simp only [laws_szAttrS.f]; rw [e, if_neg hn]) hr, fun h => by have := hrw h; omega⟩
theorem toAttrS_f (l : List S115) (hl : l.length ≤ 1048576) : Ev (fun k => laws_toAttrS.f k l) (l.map cAt) := by
 have h := copy_all (l := l) (f := cAt) (G := fun k x i => laws_toAttrS.l0 k l x i) (H := fun _ i => some (cAt (rd_T115 l (i : Int)))) (List.replicate l.length z87) (by simp)
  (fun k x i hx hi => by
   simp only [laws_toAttrS.l0, laws_toAttr.f, Option.bind_some]
   rw [if_pos (by omega), if_pos (by omega), if_pos (by omega), w64 (by omega) (by omega), Int.toNat_natCast]
   rfl)
  (fun i hi => by rw [rd_LAttr l i hi]; exact Ev.now _) (fun k x hx => by simp only [laws_toAttrS.l0]; rw [if_neg (by omega)])
 refine Ev.congr (fun k => ?_) h
 simp only [laws_toAttrS.f, Int.toNat_natCast]
 rw [if_pos (by omega), if_pos (by omega)]
theorem eqAttrS_f (l : List S87) (hl : l.length ≤ 1048576) : Ev (fun k => laws_eqAttrS.f k l l) true := by
 have h := all_all (n := l.length) (G := fun k i => laws_eqAttrS.l0 k l l i) (H := fun _ i => laws_eqAttr.f (rd_T87 l (i : Int)).f0 (rd_T87 l (i : Int)).f1 (rd_T87 l (i : Int)).f2 (rd_T87 l (i : Int)).f3 (rd_T87 l (i : Int)).f0 (rd_T87 l (i : Int)).f1 (rd_T87 l (i : Int)).f2 (rd_T87 l (i : Int)).f3)
  (fun k i hi => by simp only [laws_eqAttrS.l0]; rw [if_pos (by omega), if_pos (by omega), if_pos (by omega), w64 (by omega) (by omega)])
  (fun i hi => Ev.congr (fun k => eqAttr_f _) (Ev.now true)) (fun k => by simp only [laws_eqAttrS.l0]; rw [if_neg (by omega)])
 refine Ev.congr (fun k => ?_) h
 simp only [laws_eqAttrS.f]
 rw [if_pos trivial]
theorem rd_LNode (l : List S38) (i : Nat) (h : i < l.length) : rd_T38 l (i : Int) = l[i] := by simp [rd_T38, List.getD_eq_getElem?_getD, List.getElem?_eq_getElem h]
theorem rd_INode (l : List S44) (i : Nat) (h : i < l.length) : rd_T44 l (i : Int) = l[i] := by simp [rd_T44, List.getD_eq_getElem?_getD, List.getElem?_eq_getElem h]
theorem kidL (x y : S38) (h : y ∈ x.f6) : SizeOf.sizeOf y < SizeOf.sizeOf x := by
 have := List.sizeOf_lt_of_mem h
 cases x
 simp at this ⊢
 omega
theorem kidI (x y : S44) (h : y ∈ x.f6) : SizeOf.sizeOf y < SizeOf.sizeOf x := by
 have := List.sizeOf_lt_of_mem h
 cases x
 simp at this ⊢
 omega
theorem indL {P : S38 → Prop} (h : ∀ x, (∀ y ∈ x.f6, P y) → P x) (x : S38) : P x := by
 have : ∀ n (x : S38), SizeOf.sizeOf x < n → P x := by
  intro n
  induction n with
  | zero => intro x hx; omega
  | succ n ih => intro x hx; exact h x (fun y hy => ih y (by have := kidL x y hy; omega))
 exact this _ x (Nat.lt_succ_self _)
theorem indI {P : S44 → Prop} (h : ∀ x, (∀ y ∈ x.f6, P y) → P x) (x : S44) : P x := by
 have : ∀ n (x : S44), SizeOf.sizeOf x < n → P x := by
  intro n
  induction n with
  | zero => intro x hx; omega
  | succ n ih => intro x hx; exact h x (fun y hy => ih y (by have := kidI x y hy; omega))
 exact this _ x (Nat.lt_succ_self _)
mutual
def wNode : S38 → Int
 | ⟨_, a, b, c, ds, ats, ks, t⟩ => (a.size : Int) + (b.size : Int) + (c.size : Int) + ((ds.length : Int) + sumOf wDecl ds) + ((ats.length : Int) + sumOf wAttr ats) + ((ks.length : Int) + wNodes ks) + (t.size : Int)
def wNodes : List S38 → Int
 | [] => 0
 | x :: xs => wNode x + wNodes xs
end
theorem wNodes_eq (l : List S38) : wNodes l = sumOf wNode l := by
 induction l with
 | nil => rfl
 | cons x l ih => rw [sumOf_cons, ← ih]; rfl
theorem wNode_eq (x : S38) : wNode x = (x.f1.size : Int) + (x.f2.size : Int) + (x.f3.size : Int) + ((x.f4.length : Int) + sumOf wDecl x.f4) + ((x.f5.length : Int) + sumOf wAttr x.f5) + ((x.f6.length : Int) + sumOf wNode x.f6) + (x.f7.size : Int) := by
 cases x
 rw [wNode, wNodes_eq]
theorem sum_nonneg_of {α : Type} {w : α → Int} {l : List α} (h : ∀ x ∈ l, 0 ≤ w x) : 0 ≤ sumOf w l := by
 induction l with
 | nil => exact Int.le_refl _
 | cons z m ihm => rw [sumOf_cons]; have := h z (List.mem_cons_self ..); have := ihm (fun x hx => h x (List.mem_cons_of_mem _ hx)); omega
theorem wNode_n (x : S38) : 0 ≤ wNode x := by
 induction x using indL with
 | h x ih =>
  rw [wNode_eq]
  have := sumOf_nonneg wDecl_n x.f4
  have := sumOf_nonneg wAttr_n x.f5
  have := sum_nonneg_of ih
  omega
theorem wNode_bounds (x : S38) : (x.f4.length : Int) ≤ wNode x ∧ (x.f5.length : Int) ≤ wNode x ∧ (x.f6.length : Int) ≤ wNode x ∧ sumOf wNode x.f6 ≤ wNode x ∧ ∀ y ∈ x.f6, wNode y ≤ wNode x := by
 rw [wNode_eq]
 have := sumOf_nonneg wDecl_n x.f4
 have := sumOf_nonneg wAttr_n x.f5
 have := sumOf_nonneg wNode_n x.f6
 refine ⟨by omega, by omega, by omega, by omega, fun y hy => ?_⟩
 have := sumOf_mem wNode_n hy
 omega
mutual
def cNo : S38 → S44
 | ⟨k, a, b, c, ds, ats, ks, t⟩ => ⟨k, a, b, c, ds.map cDe, ats.map cAt, cNos ks, t⟩
def cNos : List S38 → List S44
 | [] => []
 | x :: xs => cNo x :: cNos xs
end
theorem convNodes_eq (l : List S38) : cNos l = l.map cNo := by
 induction l with
 | nil => rfl
 | cons x l ih => rw [List.map_cons, ← ih]; rfl
theorem convNode_eq (x : S38) : cNo x = ⟨x.f0, x.f1, x.f2, x.f3, x.f4.map cDe, x.f5.map cAt, x.f6.map cNo, x.f7⟩ := by
 cases x
 rw [cNo, convNodes_eq]
mutual
def vNode : S44 → Int
 | ⟨_, _, _, _, ds, ats, ks, _⟩ => (ds.length : Int) + (ats.length : Int) + ((ks.length : Int) + vNodes ks)
def vNodes : List S44 → Int
 | [] => 0
 | x :: xs => vNode x + vNodes xs
end
theorem vNodes_eq (l : List S44) : vNodes l = sumOf vNode l := by
 induction l with
 | nil => rfl
 | cons x l ih => rw [sumOf_cons, ← ih]; rfl
theorem vNode_eq (x : S44) : vNode x = (x.f4.length : Int) + (x.f5.length : Int) + ((x.f6.length : Int) + sumOf vNode x.f6) := by
 cases x
 rw [vNode, vNodes_eq]
theorem vNode_n (x : S44) : 0 ≤ vNode x := by
 induction x using indI with
 | h x ih =>
  rw [vNode_eq]
  have := sum_nonneg_of ih
  omega
theorem vNode_bounds (x : S44) : (x.f4.length : Int) ≤ vNode x ∧ (x.f5.length : Int) ≤ vNode x ∧ (x.f6.length : Int) ≤ vNode x ∧ sumOf vNode x.f6 ≤ vNode x ∧ ∀ y ∈ x.f6, vNode y ≤ vNode x := by
 rw [vNode_eq]
 have := sumOf_nonneg vNode_n x.f6
 refine ⟨by omega, by omega, by omega, by omega, fun y hy => ?_⟩
 have := sumOf_mem vNode_n hy
 omega
theorem sumOf_map_le {α β : Type} {f : α → β} {v : β → Int} {w : α → Int} {l : List α} (h : ∀ x ∈ l, v (f x) ≤ w x) : sumOf v (l.map f) ≤ sumOf w l := by
 induction l with
 | nil => exact Int.le_refl _
 | cons z m ihm => rw [List.map_cons, sumOf_cons, sumOf_cons]; have := h z (List.mem_cons_self ..); have := ihm (fun x hx => h x (List.mem_cons_of_mem _ hx)); omega
theorem vNode_conv (x : S38) : vNode (cNo x) ≤ wNode x := by
 induction x using indL with
 | h x ih =>
  rw [wNode_eq, convNode_eq, vNode_eq]
  have := sumOf_nonneg wDecl_n x.f4
  have := sumOf_nonneg wAttr_n x.f5
  have := sumOf_map_le ih
  simp only [List.length_map]
  omega
theorem szNodeS_of (l : List S38) (hl : l.length ≤ maxLen) (hx : ∀ x ∈ l, ∀ left, 0 ≤ left → left ≤ 1048576 → ∃ r, Ev (fun k => laws_szNode.f k x.f0 x.f1 x.f2 x.f3 x.f4 x.f5 x.f6 x.f7 left) r ∧ (0 ≤ r → r + wNode x = left)) (left : Int) (h0 : 0 ≤ left) (h1 : left ≤ 1048576) :
  ∃ r, Ev (fun k => laws_szNodeS.f k l left) r ∧ (0 ≤ r → r + ((l.length : Int) + sumOf wNode l) = left) := by
 unfold maxLen at hl
 have e : wrap64 (left - (l.length : Int)) = left - (l.length : Int) := w64 (by omega) (by omega)
 by_cases hn : left - (l.length : Int) < 0
 ·exact ⟨-1, Ev.step (fun k => by simp only [laws_szNodeS.f]; rw [e, if_pos hn]) (Ev.now _), fun h => by omega⟩
 ·obtain ⟨r, hr, hrw⟩ := size_all (l := l) (w := wNode) (M := 1048576) (G := fun k left i => laws_szNodeS.l0 k l left i) (H := fun k left i => laws_szNode.f k (rd_T38 l (i : Int)).f0 (rd_T38 l (i : Int)).f1 (rd_T38 l (i : Int)).f2 (rd_T38 l (i : Int)).f3 (rd_T38 l (i : Int)).f4 (rd_T38 l (i : Int)).f5 (rd_T38 l (i : Int)).f6 (rd_T38 l (i : Int)).f7 left) wNode_n
   (fun k left i h0 hi => by simp only [laws_szNodeS.l0]; rw [if_pos (by omega), if_pos (by omega), w64 (by omega) (by omega)]; rfl)
   (fun i hi left h0 h1 => by
    obtain ⟨r, a, b⟩ := hx l[i] (List.getElem_mem hi) left h0 h1
    exact ⟨r, Ev.congr (fun k => by rw [rd_LNode l i hi]) a, b⟩)
   (fun k left h0 => by simp only [laws_szNodeS.l0]; rw [if_neg (by omega)]) (left - (l.length : Int)) (by omega) (by omega)
  exact ⟨r, Ev.step (fun k => by simp only [laws_szNodeS.f]; rw [e, if_neg hn]) hr, fun h => by have := hrw h; omega⟩
theorem szNode_f (x : S38) : WF38 x → ∀ left, 0 ≤ left → left ≤ 1048576 → ∃ r, Ev (fun k => laws_szNode.f k x.f0 x.f1 x.f2 x.f3 x.f4 x.f5 x.f6 x.f7 left) r ∧ (0 ≤ r → r + wNode x = left) := by
 induction x using indL with
 | h x ih =>
  intro hw left h0 h1
  obtain ⟨_, s0, s1, s2, s3, s4, s5, g6, s6, s7⟩ := hw
  unfold maxLen at s1 s2 s3 s7
  have nd := sumOf_nonneg wDecl_n x.f4
  have na := sumOf_nonneg wAttr_n x.f5
  have nk := sumOf_nonneg wNode_n x.f6
  rw [wNode_eq]
  have e1 : wrap64 (left - (x.f1.size : Int)) = left - (x.f1.size : Int) := w64 (by omega) (by omega)
  by_cases n1 : left - (x.f1.size : Int) < 0
  ·exact ⟨-1, Ev.congr (fun k => by simp only [laws_szNode.f, laws_szNode.F]; rw [e1, if_pos n1]) (Ev.now _), fun h => by omega⟩
  have e2 : wrap64 (left - (x.f1.size : Int) - (x.f2.size : Int)) = left - (x.f1.size : Int) - (x.f2.size : Int) := w64 (by omega) (by omega)
  by_cases n2 : left - (x.f1.size : Int) - (x.f2.size : Int) < 0
  ·exact ⟨-1, Ev.congr (fun k => by simp only [laws_szNode.f, laws_szNode.F]; rw [e1, if_neg n1, e2, if_pos n2]) (Ev.now _), fun h => by omega⟩
  have e3 : wrap64 (left - (x.f1.size : Int) - (x.f2.size : Int) - (x.f3.size : Int)) = left - (x.f1.size : Int) - (x.f2.size : Int) - (x.f3.size : Int) := w64 (by omega) (by omega)
  by_cases n3 : left - (x.f1.size : Int) - (x.f2.size : Int) - (x.f3.size : Int) < 0
  ·exact ⟨-1, Ev.congr (fun k => by simp only [laws_szNode.f, laws_szNode.F]; rw [e1, if_neg n1, e2, if_neg n2, e3, if_pos n3]) (Ev.now _), fun h => by omega⟩
  have hd : ∀ (r : Int) (g : Nat → Option Int), Ev (fun k => (laws_szDeclS.f k x.f4 (left - (x.f1.size : Int) - (x.f2.size : Int) - (x.f3.size : Int))).bind fun t108 => (if t108 < 0 then (some (-1)) else ((laws_szAttrS.f k x.f5 t108).bind fun t109 => (if t109 < 0 then (some (-1)) else ((laws_szNodeS.f k x.f6 t109).bind fun t110 => (if t110 < 0 then (some (-1)) else (if (wrap64 (t110 - (x.f7.size : Int))) < 0 then (some (-1)) else (some (wrap64 (t110 - (x.f7.size : Int))))))))))) r → Ev (fun k => laws_szNode.f k x.f0 x.f1 x.f2 x.f3 x.f4 x.f5 x.f6 x.f7 left) r := fun r g h =>
   Ev.congr (fun k => by simp only [laws_szNode.f, laws_szNode.F]; rw [e1, if_neg n1, e2, if_neg n2, e3, if_neg n3]) h
  obtain ⟨r4, hr4, hw4⟩ := szDeclS_f x.f4 s4 (left - (x.f1.size : Int) - (x.f2.size : Int) - (x.f3.size : Int)) (by omega) (by omega)
  by_cases n4 : r4 < 0
  ·exact ⟨-1, hd _ (fun _ => none) (Ev.bind hr4 (Ev.congr (fun k => by rw [if_pos n4]) (Ev.now _))), fun h => by omega⟩
  have w4 := hw4 (by omega)
  obtain ⟨r5, hr5, hw5⟩ := szAttrS_f x.f5 s5 r4 (by omega) (by omega)
  by_cases n5 : r5 < 0
  ·exact ⟨-1, hd _ (fun _ => none) (Ev.bind hr4 (Ev.congr (fun k => by rw [if_neg n4]) (Ev.bind hr5 (Ev.congr (fun k => by rw [if_pos n5]) (Ev.now _))))), fun h => by omega⟩
  have w5 := hw5 (by omega)
  obtain ⟨r6, hr6, hw6⟩ := szNodeS_of x.f6 g6 (fun y hy => ih y hy (s6 y hy)) r5 (by omega) (by omega)
  by_cases n6 : r6 < 0
  ·exact ⟨-1, hd _ (fun _ => none) (Ev.bind hr4 (Ev.congr (fun k => by rw [if_neg n4]) (Ev.bind hr5 (Ev.congr (fun k => by rw [if_neg n5]) (Ev.bind hr6 (Ev.congr (fun k => by rw [if_pos n6]) (Ev.now _))))))), fun h => by omega⟩
  have w6 := hw6 (by omega)
  have e7 : wrap64 (r6 - (x.f7.size : Int)) = r6 - (x.f7.size : Int) := w64 (by omega) (by omega)
  by_cases n7 : r6 - (x.f7.size : Int) < 0
  ·exact ⟨-1, hd _ (fun _ => none) (Ev.bind hr4 (Ev.congr (fun k => by rw [if_neg n4]) (Ev.bind hr5 (Ev.congr (fun k => by rw [if_neg n5]) (Ev.bind hr6 (Ev.congr (fun k => by rw [if_neg n6, e7, if_pos n7]) (Ev.now _))))))), fun h => by omega⟩
  ·exact ⟨r6 - (x.f7.size : Int), hd _ (fun _ => none) (Ev.bind hr4 (Ev.congr (fun k => by rw [if_neg n4]) (Ev.bind hr5 (Ev.congr (fun k => by rw [if_neg n5]) (Ev.bind hr6 (Ev.congr (fun k => by rw [if_neg n6, e7, if_neg n7]) (Ev.now _))))))), fun h => by omega⟩
theorem toNodeS_of (l : List S38) (hl : l.length ≤ 1048576) (hx : ∀ x ∈ l, Ev (fun k => laws_toNode.f k x.f0 x.f1 x.f2 x.f3 x.f4 x.f5 x.f6 x.f7) (x.f0, x.f1, x.f2, x.f3, x.f4.map cDe, x.f5.map cAt, x.f6.map cNo, x.f7)) : Ev (fun k => laws_toNodeS.f k l) (l.map cNo) := by
 have h := copy_all (l := l) (f := cNo) (G := fun k x i => laws_toNodeS.l0 k l x i) (H := fun k i => (laws_toNode.f k (rd_T38 l (i : Int)).f0 (rd_T38 l (i : Int)).f1 (rd_T38 l (i : Int)).f2 (rd_T38 l (i : Int)).f3 (rd_T38 l (i : Int)).f4 (rd_T38 l (i : Int)).f5 (rd_T38 l (i : Int)).f6 (rd_T38 l (i : Int)).f7).bind fun q => some (⟨q.1, q.2.1, q.2.2.1, q.2.2.2.1, q.2.2.2.2.1, q.2.2.2.2.2.1, q.2.2.2.2.2.2.1, q.2.2.2.2.2.2.2⟩ : S44)) (List.replicate l.length z44) (by simp)
  (fun k x i hx hi => by
   simp only [laws_toNodeS.l0]
   rw [if_pos (by omega), if_pos (by omega), w64 (by omega) (by omega), Int.toNat_natCast, Option.bind_assoc]
   simp only [Option.bind_some]
   simp only [show (i : Int) < (x.length : Int) from by omega, if_true]
   rfl)
  (fun i hi => by
   rw [rd_LNode l i hi]
   refine Ev.bind (hx l[i] (List.getElem_mem hi)) ?_
   rw [convNode_eq]
   exact Ev.now _) (fun k x hx => by simp only [laws_toNodeS.l0]; rw [if_neg (by omega)])
 refine Ev.step (fun k => ?_) h
 simp only [laws_toNodeS.f, Int.toNat_natCast]
 rw [if_pos (by omega), if_pos (by omega)]
theorem toNode_f (x : S38) : wNode x ≤ 1048576 → Ev (fun k => laws_toNode.f k x.f0 x.f1 x.f2 x.f3 x.f4 x.f5 x.f6 x.f7) (x.f0, x.f1, x.f2, x.f3, x.f4.map cDe, x.f5.map cAt, x.f6.map cNo, x.f7) := by
 induction x using indL with
 | h x ih =>
  intro hw
  obtain ⟨b4, b5, b6, _, bk⟩ := wNode_bounds x
  refine Ev.congr (g := fun k => laws_toNode.f k x.f0 x.f1 x.f2 x.f3 x.f4 x.f5 x.f6 x.f7) (f := fun k => (laws_toDeclS.f k x.f4).bind fun d => (laws_toAttrS.f k x.f5).bind fun a => (laws_toNodeS.f k x.f6).bind fun n => some (x.f0, x.f1, x.f2, x.f3, d, a, n, x.f7)) (fun k => rfl) ?_
  refine Ev.bind (toDeclS_f x.f4 (by omega)) (Ev.bind (toAttrS_f x.f5 (by omega)) (Ev.bind (toNodeS_of x.f6 (by omega) (fun y hy => ih y hy (by have := bk y hy; omega))) (Ev.now _)))
theorem eqNodeS_of (l : List S44) (hl : l.length ≤ 1048576) (hx : ∀ x ∈ l, Ev (fun k => laws_eqNode.f k x.f0 x.f1 x.f2 x.f3 x.f4 x.f5 x.f6 x.f7 x.f0 x.f1 x.f2 x.f3 x.f4 x.f5 x.f6 x.f7) true) : Ev (fun k => laws_eqNodeS.f k l l) true := by
 have h := all_all (n := l.length) (G := fun k i => laws_eqNodeS.l0 k l l i) (H := fun k i => laws_eqNode.f k (rd_T44 l (i : Int)).f0 (rd_T44 l (i : Int)).f1 (rd_T44 l (i : Int)).f2 (rd_T44 l (i : Int)).f3 (rd_T44 l (i : Int)).f4 (rd_T44 l (i : Int)).f5 (rd_T44 l (i : Int)).f6 (rd_T44 l (i : Int)).f7 (rd_T44 l (i : Int)).f0 (rd_T44 l (i : Int)).f1 (rd_T44 l (i : Int)).f2 (rd_T44 l (i : Int)).f3 (rd_T44 l (i : Int)).f4 (rd_T44 l (i : Int)).f5 (rd_T44 l (i : Int)).f6 (rd_T44 l (i : Int)).f7)
  (fun k i hi => by simp only [laws_eqNodeS.l0]; rw [if_pos (by omega), if_pos (by omega), if_pos (by omega), w64 (by omega) (by omega)]; rfl)
  (fun i hi => by rw [rd_INode l i hi]; exact hx l[i] (List.getElem_mem hi)) (fun k => by simp only [laws_eqNodeS.l0]; rw [if_neg (by omega)])
 refine Ev.step (fun k => ?_) h
 simp only [laws_eqNodeS.f]
 rw [if_pos trivial]
theorem eqNode_f (x : S44) : vNode x ≤ 1048576 → Ev (fun k => laws_eqNode.f k x.f0 x.f1 x.f2 x.f3 x.f4 x.f5 x.f6 x.f7 x.f0 x.f1 x.f2 x.f3 x.f4 x.f5 x.f6 x.f7) true := by
 induction x using indI with
 | h x ih =>
  intro hw
  obtain ⟨b4, b5, b6, _, bk⟩ := vNode_bounds x
  refine Ev.congr (f := fun k => (laws_eqDeclS.f k x.f4 x.f4).bind fun t => (if t = true then ((laws_eqAttrS.f k x.f5 x.f5).bind fun t => (if t = true then ((laws_eqNodeS.f k x.f6 x.f6).bind fun t => (if t = true then some true else some false)) else (some false))) else (some false))) (fun k => by simp [laws_eqNode.f, laws_eqNode.F]) ?_
  refine Ev.bind (eqDeclS_f x.f4 (by omega)) (Ev.congr (fun k => by rw [if_pos rfl]) (Ev.bind (eqAttrS_f x.f5 (by omega)) (Ev.congr (fun k => by rw [if_pos rfl]) (Ev.bind (eqNodeS_of x.f6 (by omega) (fun y hy => ih y hy (by have := bk y hy; omega))) (Ev.congr (fun k => by rw [if_pos rfl]) (Ev.now _))))))
def pDecl (a : ByteArray) (d : S76) : Bool := d.f0.toList == a.toList
def rSpace (a : ByteArray) (o : Option S76) : ByteArray × Bool :=
 match o with
 | some d => (d.f1, true)
 | none => (⟨#[]⟩, a.toList == [])
def spaceOf (l : List S76) (a : ByteArray) : ByteArray × Bool := rSpace a (l.reverse.find? (pDecl a))
theorem spaceOf_impl (l : List S76) (a : ByteArray) : impl_SpaceOf.f l a = some (spaceOf l a) := by
 unfold impl_SpaceOf.f spaceOf rSpace pDecl
 cases l.reverse.find? (fun d => d.f0.toList == a.toList) <;> rfl
theorem spaceOf_l0 (l : List S76) (a : ByteArray) (hl : l.length ≤ 9223372036854775807) : ∀ i : Nat, i ≤ l.length → Ev (fun k => spec_SpaceOf.l0 k l a ((i : Int) - 1)) (rSpace a ((l.take i).reverse.find? (pDecl a))) := by
 intro i
 induction i with
 | zero =>
  intro _
  refine Ev.step (fun k => ?_) (Ev.now _)
  simp only [spec_SpaceOf.l0]
  rw [if_neg (by omega)]
  rfl
 | succ i ih =>
  intro hi
  have hrd := rd_IDecl l i (by omega)
  have e1 : ((i + 1 : Nat) : Int) - 1 = (i : Int) := by omega
  rw [e1, List.take_succ_eq_append_getElem (by omega), List.reverse_append]
  simp only [List.reverse_cons, List.reverse_nil, List.nil_append, List.cons_append]
  by_cases hp : l[i].f0.toList = a.toList
  ·rw [List.find?_cons_of_pos (by unfold pDecl; simpa using hp)]
   refine Ev.step (fun k => ?_) (Ev.now _)
   simp only [spec_SpaceOf.l0]
   rw [if_pos (by omega), if_pos (by omega), if_pos (by omega), hrd, if_pos hp]
   rfl
  ·rw [List.find?_cons_of_neg (by unfold pDecl; simpa using hp)]
   refine Ev.step (fun k => ?_) (ih (by omega))
   simp only [spec_SpaceOf.l0]
   rw [if_pos (by omega), if_pos (by omega), if_pos (by omega), hrd, if_neg hp, w64 (by omega) (by omega)]
theorem spaceOf_spec (l : List S76) (a : ByteArray) (hl : l.length ≤ 9223372036854775807) : Ev (fun k => spec_SpaceOf.f k l a) (spaceOf l a) := by
 have h := spaceOf_l0 l a hl l.length (Nat.le_refl _)
 rw [List.take_length] at h
 refine Ev.congr (fun k => ?_) h
 unfold spec_SpaceOf.f
 rw [w64 (by omega) (by omega)]
theorem inner_impl (a b : List S76) (ha : a.length ≤ 1048576) (hb : b.length ≤ 1048576) : Ev (fun k => impl_Inner.f k a b) (a ++ b) := by
 have e0 : rd_L9 [a, b] 0 = a := rfl
 have e1 : rd_L9 [a, b] 1 = b := rfl
 have w0 : wrap64 (0 + (a.length : Int)) = (a.length : Int) := by rw [w64 (by omega) (by omega)]; omega
 have w1 : wrap64 ((a.length : Int) + (b.length : Int)) = (a.length : Int) + (b.length : Int) := w64 (by omega) (by omega)
 have u0 : wrap64 (0 + 1) = 1 := by unfold wrap64; omega
 have u1 : wrap64 (1 + 1) = 2 := by unfold wrap64; omega
 have hl : ((([a, b] : List (List S76)).length : Nat) : Int) = 2 := rfl
 have hg : impl_Decl_90.f [] ((a.length : Int) + (b.length : Int)) = some [] := by unfold impl_Decl_90.f; rw [if_pos (by omega), if_pos (by omega)]
 refine Ev.congr (fun k => by unfold impl_Inner.f impl_Decl_59.f; rfl) (Ev.bind ?_ (Ev.now _))
 rw [hl]
 refine Ev.step (fun k => by simp only [impl_Decl_59.l0]; rw [if_pos (by omega), if_pos (by omega), if_pos (by omega), e0, w0, if_neg (by omega), u0]) ?_
 refine Ev.step (fun k => by simp only [impl_Decl_59.l0]; rw [if_pos (by omega), if_pos (by omega), if_pos (by omega), e1, w1, if_neg (by omega), u1]) ?_
 refine Ev.step (fun k => by simp only [impl_Decl_59.l0]; rw [if_neg (by omega), hg]) ?_
 simp only [Option.bind_some]
 rw [hl]
 refine Ev.step (fun k => by simp only [impl_Decl_59.l1]; rw [if_pos (by omega), if_pos (by omega), if_pos (by omega), e0, if_pos (by simp; omega), u0]) ?_
 refine Ev.step (fun k => by simp only [impl_Decl_59.l1]; rw [if_pos (by omega), if_pos (by omega), if_pos (by omega), e1, if_pos (by simp; omega), u1]) ?_
 exact Ev.step (fun k => by simp only [impl_Decl_59.l1]; rw [if_neg (by omega)]; rfl) (Ev.now _)
theorem inner_spec (a b : List S76) (ha : a.length ≤ 1048576) (hb : b.length ≤ 1048576) : spec_Inner.f a b = some (a ++ b) := by
 unfold spec_Inner.f
 simp only [Option.bind_some, List.nil_append, List.length_nil]
 rw [if_pos (by omega), if_pos (by omega)]
theorem Ev.mapo {α β : Type} {g : Nat → Option α} {r : α} (f : α → β) (h : Ev g r) : Ev (fun k => (g k).map f) (f r) := by
 obtain ⟨K, h⟩ := h
 exact ⟨K, fun k hk => by show Option.map f (g k) = _; rw [h k hk]; rfl⟩
theorem fmeans_eq (l : List S76) (u a : ByteArray) : impl_FitsIn.means l u a = ((spaceOf l a).2 && ((spaceOf l a).1.toList == u.toList)) := by
 unfold impl_FitsIn.means
 rw [spaceOf_impl]
theorem rd_IAttr2 (l : List S87) (i : Nat) (h : i < l.length) : rd_T87 l (i : Int) = l[i] := by simp [rd_T87, List.getD_eq_getElem?_getD, List.getElem?_eq_getElem h]
theorem fits_kids (x : S44) (own : List S76) (hl : x.f6.length ≤ 1048576)
  (hk : ∀ y ∈ x.f6, ∃ r, Ev (fun k => spec_FitsIn.f k y.f0 y.f1 y.f2 y.f3 y.f4 y.f5 y.f6 y.f7 own) r ∧ Ev (fun k => impl_FitsIn.f k y.f0 y.f1 y.f2 y.f3 y.f4 y.f5 y.f6 y.f7 own) r) (d : Nat) :
  ∀ i : Nat, i ≤ x.f6.length → x.f6.length - i = d → ∃ r, Ev (fun k => spec_FitsIn.l1 k own (i : Int) x.f0 x.f1 x.f2 x.f3 x.f4 x.f5 x.f6 x.f7) r ∧
   Ev (fun k => (impl_Node_67.any (fun y => (impl_FitsIn.f k y.f0 y.f1 y.f2 y.f3 y.f4 y.f5 y.f6 y.f7 own).map not) (x.f6.drop i)).map not) r := by
 induction d with
 | zero =>
  intro i hi hd
  refine ⟨true, Ev.step (fun k => ?_) (Ev.now _), Ev.congr (fun k => ?_) (Ev.now _)⟩
  ·simp only [spec_FitsIn.l1]
   rw [if_neg (by omega)]
  ·rw [List.drop_eq_nil_of_le (by omega)]
   rfl
 | succ d ih =>
  intro i hi hd
  have hlt : i < x.f6.length := by omega
  have hrd := rd_INode x.f6 i hlt
  have w1 : wrap64 ((i : Int) + 1) = ((i + 1 : Nat) : Int) := by rw [w64 (by omega) (by omega)]; omega
  obtain ⟨b, b1, b2⟩ := hk x.f6[i] (List.getElem_mem hlt)
  have hs : ∀ k, spec_FitsIn.l1 (k + 1) own (i : Int) x.f0 x.f1 x.f2 x.f3 x.f4 x.f5 x.f6 x.f7 = (spec_FitsIn.f k x.f6[i].f0 x.f6[i].f1 x.f6[i].f2 x.f6[i].f3 x.f6[i].f4 x.f6[i].f5 x.f6[i].f6 x.f6[i].f7 own).bind fun t => if t = true then spec_FitsIn.l1 k own ((i + 1 : Nat) : Int) x.f0 x.f1 x.f2 x.f3 x.f4 x.f5 x.f6 x.f7 else some false := fun k => by
   simp only [spec_FitsIn.l1]
   rw [if_pos (by omega), if_pos (by omega), hrd, w1]
  have hi' : ∀ k, (impl_Node_67.any (fun y => (impl_FitsIn.f k y.f0 y.f1 y.f2 y.f3 y.f4 y.f5 y.f6 y.f7 own).map not) (x.f6.drop i)).map not = ((impl_FitsIn.f k x.f6[i].f0 x.f6[i].f1 x.f6[i].f2 x.f6[i].f3 x.f6[i].f4 x.f6[i].f5 x.f6[i].f6 x.f6[i].f7 own).map not).bind fun t => if t = true then some false else (impl_Node_67.any (fun y => (impl_FitsIn.f k y.f0 y.f1 y.f2 y.f3 y.f4 y.f5 y.f6 y.f7 own).map not) (x.f6.drop (i + 1))).map not := fun k => by
   rw [List.drop_eq_getElem_cons hlt]
   simp only [impl_Node_67.any]
   rw [Option.map_bind]
   refine congrArg _ (funext fun t => ?_)
   cases t <;> rfl
  cases b with
  | false =>
   exact ⟨false, Ev.step hs (Ev.bind b1 (Ev.congr (fun k => by rw [if_neg (by simp)]) (Ev.now _))), Ev.congr hi' (Ev.bind (Ev.mapo not b2) (Ev.congr (fun k => by rw [if_pos (by rfl)]) (Ev.now _)))⟩
  | true =>
   obtain ⟨r, r1, r2⟩ := ih (i + 1) (by omega) (by omega)
   exact ⟨r, Ev.step hs (Ev.bind b1 (Ev.congr (fun k => by rw [if_pos rfl]) r1)), Ev.congr hi' (Ev.bind (Ev.mapo not b2) (Ev.congr (fun k => by rw [if_neg (by simp)]) r2))⟩
theorem fits_attrs (x : S44) (own : List S76) (hl : x.f5.length ≤ 1048576) (ho : own.length ≤ 1048576) (rk : Bool)
  (hk : Ev (fun k => spec_FitsIn.l1 k own 0 x.f0 x.f1 x.f2 x.f3 x.f4 x.f5 x.f6 x.f7) rk) (d : Nat) :
  ∀ i : Nat, i ≤ x.f5.length → x.f5.length - i = d → Ev (fun k => spec_FitsIn.l0 k own (i : Int) x.f0 x.f1 x.f2 x.f3 x.f4 x.f5 x.f6 x.f7) (if (x.f5.drop i).any (impl_FitsIn.q own) = true then false else rk) := by
 induction d with
 | zero =>
  intro i hi hd
  rw [List.drop_eq_nil_of_le (by omega), if_neg (by simp)]
  refine Ev.step (fun k => ?_) hk
  simp only [spec_FitsIn.l0]
  rw [if_neg (by omega)]
 | succ d ih =>
  intro i hi hd
  have hlt : i < x.f5.length := by omega
  have hrd := rd_IAttr2 x.f5 i hlt
  have w1 : wrap64 ((i : Int) + 1) = ((i + 1 : Nat) : Int) := by rw [w64 (by omega) (by omega)]; omega
  have ih' := ih (i + 1) (by omega) (by omega)
  have hsp := spaceOf_spec own x.f5[i].f0 (by omega)
  have hq : impl_FitsIn.q own x.f5[i] = (!(x.f5[i].f0.toList == []) && !((spaceOf own x.f5[i].f0).2 && ((spaceOf own x.f5[i].f0).1.toList == x.f5[i].f2.toList))) := by
   unfold impl_FitsIn.q
   rw [fmeans_eq]
  have hs : ∀ k, spec_FitsIn.l0 (k + 1) own (i : Int) x.f0 x.f1 x.f2 x.f3 x.f4 x.f5 x.f6 x.f7 = (spec_SpaceOf.f k own x.f5[i].f0).bind fun bt => if x.f5[i].f0.toList = ([] : List UInt8) then spec_FitsIn.l0 k own ((i + 1 : Nat) : Int) x.f0 x.f1 x.f2 x.f3 x.f4 x.f5 x.f6 x.f7 else (if bt.2 = true then (if bt.1.toList = x.f5[i].f2.toList then spec_FitsIn.l0 k own ((i + 1 : Nat) : Int) x.f0 x.f1 x.f2 x.f3 x.f4 x.f5 x.f6 x.f7 else some false) else some false) := fun k => by
   simp only [spec_FitsIn.l0]
   rw [if_pos (by omega), if_pos (by omega), hrd, w1]
  rw [List.drop_eq_getElem_cons hlt, List.any_cons]
  refine Ev.step hs (Ev.bind hsp ?_)
  by_cases he : x.f5[i].f0.toList = []
  ·have hq0 : impl_FitsIn.q own x.f5[i] = false := by rw [hq, he]; rfl
   rw [hq0, Bool.false_or]
   exact Ev.congr (fun k => by rw [if_pos he]) ih'
  ·have he2 : (x.f5[i].f0.toList == []) = false := by simpa using he
   by_cases h2 : (spaceOf own x.f5[i].f0).2 = true
   ·by_cases h1 : (spaceOf own x.f5[i].f0).1.toList = x.f5[i].f2.toList
    ·have hq0 : impl_FitsIn.q own x.f5[i] = false := by rw [hq, h2, h1]; simp
     rw [hq0, Bool.false_or]
     exact Ev.congr (fun k => by rw [if_neg he, if_pos h2, if_pos h1]) ih'
    ·have hq1 : impl_FitsIn.q own x.f5[i] = true := by
      rw [hq, h2, he2]
      simp [h1]
     rw [hq1, Bool.true_or, if_pos rfl]
     exact Ev.congr (fun k => by rw [if_neg he, if_pos h2, if_neg h1]) (Ev.now _)
   ·have h2' : (spaceOf own x.f5[i].f0).2 = false := by simpa using h2
    have hq1 : impl_FitsIn.q own x.f5[i] = true := by rw [hq, h2', he2]; rfl
    rw [hq1, Bool.true_or, if_pos rfl]
    exact Ev.congr (fun k => by rw [if_neg he, if_neg h2]) (Ev.now _)
theorem fits_both (x : S44) : ∀ l : List S76, (l.length : Int) + vNode x ≤ 1048576 →
  ∃ r, Ev (fun k => spec_FitsIn.f k x.f0 x.f1 x.f2 x.f3 x.f4 x.f5 x.f6 x.f7 l) r ∧ Ev (fun k => impl_FitsIn.f k x.f0 x.f1 x.f2 x.f3 x.f4 x.f5 x.f6 x.f7 l) r := by
 induction x using indI with
 | h x ih =>
  intro l hw
  have hv := vNode_eq x
  have hnn := sumOf_nonneg vNode_n x.f6
  have hlen : (l ++ x.f4).length = l.length + x.f4.length := List.length_append
  have hi := inner_impl l x.f4 (by omega) (by omega)
  have hsp := inner_spec l x.f4 (by omega) (by omega)
  have hkid : ∀ y ∈ x.f6, ∃ r, Ev (fun k => spec_FitsIn.f k y.f0 y.f1 y.f2 y.f3 y.f4 y.f5 y.f6 y.f7 (l ++ x.f4)) r ∧ Ev (fun k => impl_FitsIn.f k y.f0 y.f1 y.f2 y.f3 y.f4 y.f5 y.f6 y.f7 (l ++ x.f4)) r := fun y hy =>
   ih y hy (l ++ x.f4) (by have := sumOf_mem vNode_n hy; rw [hlen]; omega)
  obtain ⟨rk, hk1, hk2⟩ := fits_kids x (l ++ x.f4) (by omega) hkid x.f6.length 0 (by omega) (by omega)
  have ha := fits_attrs x (l ++ x.f4) (by omega) (by omega) rk hk1 x.f5.length 0 (by omega) (by omega)
  rw [List.drop_zero] at ha hk2
  have hj : Ev (fun k => spec_FitsIn.j0 k (l ++ x.f4) x.f0 x.f1 x.f2 x.f3 x.f4 x.f5 x.f6 x.f7) (if x.f5.any (impl_FitsIn.q (l ++ x.f4)) = true then false else rk) := Ev.step (fun k => by simp only [spec_FitsIn.j0]; rfl) ha
  have hsu := spaceOf_spec (l ++ x.f4) x.f1 (by omega)
  have hstep : ∀ k, spec_FitsIn.f (k + 1) x.f0 x.f1 x.f2 x.f3 x.f4 x.f5 x.f6 x.f7 l = (if x.f0 = 1 then ((spec_SpaceOf.f k (l ++ x.f4) x.f1).bind fun bt204 => (if bt204.2 = true then (if bt204.1.toList = x.f3.toList then (spec_FitsIn.j0 k (l ++ x.f4) x.f0 x.f1 x.f2 x.f3 x.f4 x.f5 x.f6 x.f7) else (some false)) else (some false))) else (spec_FitsIn.j0 k (l ++ x.f4) x.f0 x.f1 x.f2 x.f3 x.f4 x.f5 x.f6 x.f7)) := fun k => by
   simp only [spec_FitsIn.f]
   rw [hsp]
   rfl
  have himp : ∀ (rr : Bool), Ev (fun k => (if (decide (x.f0 = 1) && !impl_FitsIn.means (l ++ x.f4) x.f3 x.f1) = true then some false else if x.f5.any (impl_FitsIn.q (l ++ x.f4)) = true then some false else (impl_Node_67.any (fun y => (impl_FitsIn.f k y.f0 y.f1 y.f2 y.f3 y.f4 y.f5 y.f6 y.f7 (l ++ x.f4)).map not) x.f6).map not)) rr →
    Ev (fun k => impl_FitsIn.f k x.f0 x.f1 x.f2 x.f3 x.f4 x.f5 x.f6 x.f7 l) rr := fun rr h =>
   Ev.step (fun k => by simp only [impl_FitsIn.f]; rfl) (Ev.bind hi h)
  have hj2 : Ev (fun k => (if x.f5.any (impl_FitsIn.q (l ++ x.f4)) = true then some false else (impl_Node_67.any (fun y => (impl_FitsIn.f k y.f0 y.f1 y.f2 y.f3 y.f4 y.f5 y.f6 y.f7 (l ++ x.f4)).map not) x.f6).map not)) (if x.f5.any (impl_FitsIn.q (l ++ x.f4)) = true then false else rk) := by
   by_cases hc : x.f5.any (impl_FitsIn.q (l ++ x.f4)) = true
   ·rw [if_pos hc]
    exact Ev.congr (fun k => by rw [if_pos hc]) (Ev.now _)
   ·rw [if_neg hc]
    exact Ev.congr (fun k => by rw [if_neg hc]) hk2
  generalize (if x.f5.any (impl_FitsIn.q (l ++ x.f4)) = true then false else rk) = rr at hj hj2
  by_cases h1 : x.f0 = 1
  ·have hm := fmeans_eq (l ++ x.f4) x.f3 x.f1
   by_cases h2 : (spaceOf (l ++ x.f4) x.f1).2 = true
   ·by_cases h3 : (spaceOf (l ++ x.f4) x.f1).1.toList = x.f3.toList
    ·refine ⟨rr, Ev.step hstep (Ev.congr (fun k => by rw [if_pos h1]) (Ev.bind hsu (Ev.congr (fun k => by rw [if_pos h2, if_pos h3]) hj))), himp _ (Ev.congr (fun k => by rw [if_neg (by rw [hm, h2, h3]; simp)]) hj2)⟩
    ·refine ⟨false, Ev.step hstep (Ev.congr (fun k => by rw [if_pos h1]) (Ev.bind hsu (Ev.congr (fun k => by rw [if_pos h2, if_neg h3]) (Ev.now _)))), himp _ (Ev.congr (fun k => by rw [if_pos (by rw [hm, h2]; simp [h1, h3])]) (Ev.now _))⟩
   ·have h2' : (spaceOf (l ++ x.f4) x.f1).2 = false := by simpa using h2
    refine ⟨false, Ev.step hstep (Ev.congr (fun k => by rw [if_pos h1]) (Ev.bind hsu (Ev.congr (fun k => by rw [if_neg h2]) (Ev.now _)))), himp _ (Ev.congr (fun k => by rw [if_pos (by rw [hm, h2']; simp [h1])]) (Ev.now _))⟩
  ·exact ⟨rr, Ev.step hstep (Ev.congr (fun k => by rw [if_neg h1]) hj), himp _ (Ev.congr (fun k => by rw [if_neg (by simp [h1])]) hj2)⟩
theorem FnExactFitsIn : laws_FnExactFitsIn.Pure := by
 intro x l hw hv
 obtain ⟨r, hr, hrw⟩ := szNode_f x hw 1048576 (by omega) (by omega)
 refine Ev.rounds (r := true) ?_
 refine Ev.congr (fun k => by simp only [laws_FnExactFitsIn.f]; rfl) (Ev.bind hr ?_)
 by_cases hn : r < 0
 ·exact Ev.congr (fun k => by rw [if_pos hn]) (Ev.now _)
 have hnn := wNode_n x
 have hrw' := hrw (by omega)
 obtain ⟨r2, hr2, hrw2⟩ := szDeclS_f l hv r (by omega) (by omega)
 refine Ev.congr (fun k => by rw [if_neg hn]) (Ev.bind hr2 ?_)
 by_cases hn2 : r2 < 0
 ·exact Ev.congr (fun k => by rw [if_pos hn2]) (Ev.now _)
 have hs2 := sumOf_nonneg wDecl_n l
 have hrw2' := hrw2 (by omega)
 have hl : l.length ≤ 1048576 := by omega
 have hwn : wNode x ≤ 1048576 := by omega
 have hvn := vNode_conv x
 have hlm : (l.map cDe).length = l.length := List.length_map ..
 have ht := toNode_f x hwn
 have hu := toDeclS_f l hl
 have he := eqNode_f (cNo x) (by omega)
 have hel := eqDeclS_f (l.map cDe) (by omega)
 obtain ⟨c, hs, hi⟩ := fits_both (cNo x) (l.map cDe) (by omega)
 rw [convNode_eq] at hs hi he
 refine Ev.congr (fun k => by rw [if_neg hn2]) (Ev.bind ht (Ev.bind hu (Ev.bind hs (Ev.bind ht (Ev.bind hu (Ev.bind hi ?_))))))
 refine Ev.congr (fun k => by rw [if_neg (by simp)]) (Ev.bind ht ?_)
 refine Ev.bind he ?_
 refine Ev.congr (fun k => by rw [if_pos rfl]) (Ev.bind hu (Ev.bind hel ?_))
 exact Ev.congr (fun k => by rw [if_pos rfl]) (Ev.now _)

end FnExactFitsIn_
theorem FnExactFitsIn : laws_FnExactFitsIn.Pure := FnExactFitsIn_.FnExactFitsIn
end Go.Proofs.Ytehlkajccnmddaa.Pure
