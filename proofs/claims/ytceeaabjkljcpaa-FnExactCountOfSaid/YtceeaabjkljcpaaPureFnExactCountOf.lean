/- The program's CountOf and the reference's count alike, at every tree; the tree reads as it did.
Conditions: none. -/
import Derived.Test.YtceeaabjkljcpaaSaidFnExactCountOf
import Derived.Test.YtceeaabjkljcpaaLists
namespace Go.Proofs.Ytceeaabjkljcpaa.Pure
open Go.RowKit Go.Proofs.Ytceeaabjkljcpaa.PZ Go.Proofs.YtceeaabjkljcpaaW.PrintWords Go.Proofs.YtceeaabjkljcpaaW.PrintLast Go.Proofs.Ytceeaabjkljcpaa.Lists
set_option linter.unusedVariables false
set_option linter.unusedSimpArgs false

namespace FnExactCountOf_
theorem rd_LDecl (l : List S53) (i : Nat) (h : i < l.length) : rd_T53 l (i : Int) = l[i] := by simp [rd_T53, List.getD_eq_getElem?_getD, List.getElem?_eq_getElem h]
theorem rd_IDecl (l : List S55) (i : Nat) (h : i < l.length) : rd_T55 l (i : Int) = l[i] := by simp [rd_T55, List.getD_eq_getElem?_getD, List.getElem?_eq_getElem h]
def convDecl (x : S53) : S55 := ⟨x.f0, x.f1⟩
theorem eqDecl_f (x : S55) : laws_eqDecl.f x.f0 x.f1 x.f0 x.f1 = some true := by
  unfold laws_eqDecl.f
  simp
def wDecl (x : S53) : Int := (x.f0.size : Int) + (x.f1.size : Int)
theorem wDecl_nonneg (x : S53) : 0 ≤ wDecl x := by unfold wDecl; omega
theorem szDecl_f (x : S53) (left : Int) (hw : WF53 x) (h0 : 0 ≤ left) (h1 : left ≤ 1048576) : ∃ r, laws_szDecl.f x.f0 x.f1 left = some r ∧ (0 ≤ r → r + wDecl x = left) := by
  obtain ⟨h_0, h_1⟩ := hw
  unfold maxLen at h_0 h_1
  unfold laws_szDecl.f wrap64 wDecl
  split
  · exact ⟨_, rfl, by omega⟩
  split
  · exact ⟨_, rfl, by omega⟩
  exact ⟨_, rfl, fun _ => by omega⟩
theorem szDeclS_f (l : List S53) (hw : l.length ≤ maxLen ∧ ∀ x ∈ l, WF53 x) (left : Int) (h0 : 0 ≤ left) (h1 : left ≤ 1048576) : ∃ r, Ev (fun k => laws_szDeclS.f k l left) r ∧ (0 ≤ r → r + ((l.length : Int) + sumOf wDecl l) = left) := by
  obtain ⟨hl, hw⟩ := hw
  unfold maxLen at hl
  have e : wrap64 (left - (l.length : Int)) = left - (l.length : Int) := w64 (by omega) (by omega)
  by_cases hn : left - (l.length : Int) < 0
  · exact ⟨-1, Ev.congr (fun k => by simp only [laws_szDeclS.f]; rw [e, if_pos hn]) (Ev.now _), fun h => by omega⟩
  · obtain ⟨r, hr, hrw⟩ := size_all (l := l) (w := wDecl) (M := 1048576) (G := fun k left i => laws_szDeclS.l0 k l left i) (H := fun _ left i => laws_szDecl.f (rd_T53 l (i : Int)).f0 (rd_T53 l (i : Int)).f1 left) wDecl_nonneg
      (fun k left i h0 hi => by simp only [laws_szDeclS.l0]; rw [if_pos (by omega), if_pos (by omega), w64 (by omega) (by omega)])
      (fun i hi left h0 h1 => by
        obtain ⟨r, a, b⟩ := szDecl_f l[i] left (hw _ (List.getElem_mem hi)) h0 h1
        exact ⟨r, Ev.congr (fun k => by rw [rd_LDecl l i hi]; exact a) (Ev.now r), b⟩)
      (fun k left h0 => by simp only [laws_szDeclS.l0]; rw [if_neg (by omega)]) (left - (l.length : Int)) (by omega) (by omega)
    exact ⟨r, Ev.congr (fun k => by simp only [laws_szDeclS.f]; rw [e, if_neg hn]) hr, fun h => by have := hrw h; omega⟩
theorem toDeclS_f (l : List S53) (hl : l.length ≤ 1048576) : Ev (fun k => laws_toDeclS.f k l) (l.map convDecl) := by
  have h := copy_all (l := l) (f := convDecl) (G := fun k x i => laws_toDeclS.l0 k l x i) (H := fun _ i => some (convDecl (rd_T53 l (i : Int)))) (List.replicate l.length z55) (by simp)
    (fun k x i hx hi => by
      simp only [laws_toDeclS.l0, laws_toDecl.f, Option.bind_some]
      rw [if_pos (by omega), if_pos (by omega), if_pos (by omega), w64 (by omega) (by omega), Int.toNat_natCast]
      rfl)
    (fun i hi => by rw [rd_LDecl l i hi]; exact Ev.now _) (fun k x hx => by simp only [laws_toDeclS.l0]; rw [if_neg (by omega)])
  refine Ev.congr (fun k => ?_) h
  simp only [laws_toDeclS.f, Int.toNat_natCast]
  rw [if_pos (by omega), if_pos (by omega)]
theorem eqDeclS_f (l : List S55) (hl : l.length ≤ 1048576) : Ev (fun k => laws_eqDeclS.f k l l) true := by
  have h := all_all (n := l.length) (G := fun k i => laws_eqDeclS.l0 k l l i) (H := fun _ i => laws_eqDecl.f (rd_T55 l (i : Int)).f0 (rd_T55 l (i : Int)).f1 (rd_T55 l (i : Int)).f0 (rd_T55 l (i : Int)).f1)
    (fun k i hi => by simp only [laws_eqDeclS.l0]; rw [if_pos (by omega), if_pos (by omega), if_pos (by omega), w64 (by omega) (by omega)])
    (fun i hi => Ev.congr (fun k => eqDecl_f _) (Ev.now true)) (fun k => by simp only [laws_eqDeclS.l0]; rw [if_neg (by omega)])
  refine Ev.congr (fun k => ?_) h
  simp only [laws_eqDeclS.f]
  rw [if_pos trivial]
theorem rd_LAttr (l : List S92) (i : Nat) (h : i < l.length) : rd_T92 l (i : Int) = l[i] := by simp [rd_T92, List.getD_eq_getElem?_getD, List.getElem?_eq_getElem h]
theorem rd_IAttr (l : List S86) (i : Nat) (h : i < l.length) : rd_T86 l (i : Int) = l[i] := by simp [rd_T86, List.getD_eq_getElem?_getD, List.getElem?_eq_getElem h]
def convAttr (x : S92) : S86 := ⟨x.f0, x.f1, x.f2, x.f3⟩
theorem eqAttr_f (x : S86) : laws_eqAttr.f x.f0 x.f1 x.f2 x.f3 x.f0 x.f1 x.f2 x.f3 = some true := by
  unfold laws_eqAttr.f
  simp
def wAttr (x : S92) : Int := (x.f0.size : Int) + (x.f1.size : Int) + (x.f2.size : Int) + (x.f3.size : Int)
theorem wAttr_nonneg (x : S92) : 0 ≤ wAttr x := by unfold wAttr; omega
theorem szAttr_f (x : S92) (left : Int) (hw : WF92 x) (h0 : 0 ≤ left) (h1 : left ≤ 1048576) : ∃ r, laws_szAttr.f x.f0 x.f1 x.f2 x.f3 left = some r ∧ (0 ≤ r → r + wAttr x = left) := by
  obtain ⟨h_0, h_1, h_2, h_3⟩ := hw
  unfold maxLen at h_0 h_1 h_2 h_3
  unfold laws_szAttr.f wrap64 wAttr
  split
  · exact ⟨_, rfl, by omega⟩
  split
  · exact ⟨_, rfl, by omega⟩
  split
  · exact ⟨_, rfl, by omega⟩
  split
  · exact ⟨_, rfl, by omega⟩
  exact ⟨_, rfl, fun _ => by omega⟩
theorem szAttrS_f (l : List S92) (hw : l.length ≤ maxLen ∧ ∀ x ∈ l, WF92 x) (left : Int) (h0 : 0 ≤ left) (h1 : left ≤ 1048576) : ∃ r, Ev (fun k => laws_szAttrS.f k l left) r ∧ (0 ≤ r → r + ((l.length : Int) + sumOf wAttr l) = left) := by
  obtain ⟨hl, hw⟩ := hw
  unfold maxLen at hl
  have e : wrap64 (left - (l.length : Int)) = left - (l.length : Int) := w64 (by omega) (by omega)
  by_cases hn : left - (l.length : Int) < 0
  · exact ⟨-1, Ev.congr (fun k => by simp only [laws_szAttrS.f]; rw [e, if_pos hn]) (Ev.now _), fun h => by omega⟩
  · obtain ⟨r, hr, hrw⟩ := size_all (l := l) (w := wAttr) (M := 1048576) (G := fun k left i => laws_szAttrS.l0 k l left i) (H := fun _ left i => laws_szAttr.f (rd_T92 l (i : Int)).f0 (rd_T92 l (i : Int)).f1 (rd_T92 l (i : Int)).f2 (rd_T92 l (i : Int)).f3 left) wAttr_nonneg
      (fun k left i h0 hi => by simp only [laws_szAttrS.l0]; rw [if_pos (by omega), if_pos (by omega), w64 (by omega) (by omega)])
      (fun i hi left h0 h1 => by
        obtain ⟨r, a, b⟩ := szAttr_f l[i] left (hw _ (List.getElem_mem hi)) h0 h1
        exact ⟨r, Ev.congr (fun k => by rw [rd_LAttr l i hi]; exact a) (Ev.now r), b⟩)
      (fun k left h0 => by simp only [laws_szAttrS.l0]; rw [if_neg (by omega)]) (left - (l.length : Int)) (by omega) (by omega)
    exact ⟨r, Ev.congr (fun k => by simp only [laws_szAttrS.f]; rw [e, if_neg hn]) hr, fun h => by have := hrw h; omega⟩
theorem toAttrS_f (l : List S92) (hl : l.length ≤ 1048576) : Ev (fun k => laws_toAttrS.f k l) (l.map convAttr) := by
  have h := copy_all (l := l) (f := convAttr) (G := fun k x i => laws_toAttrS.l0 k l x i) (H := fun _ i => some (convAttr (rd_T92 l (i : Int)))) (List.replicate l.length z86) (by simp)
    (fun k x i hx hi => by
      simp only [laws_toAttrS.l0, laws_toAttr.f, Option.bind_some]
      rw [if_pos (by omega), if_pos (by omega), if_pos (by omega), w64 (by omega) (by omega), Int.toNat_natCast]
      rfl)
    (fun i hi => by rw [rd_LAttr l i hi]; exact Ev.now _) (fun k x hx => by simp only [laws_toAttrS.l0]; rw [if_neg (by omega)])
  refine Ev.congr (fun k => ?_) h
  simp only [laws_toAttrS.f, Int.toNat_natCast]
  rw [if_pos (by omega), if_pos (by omega)]
theorem eqAttrS_f (l : List S86) (hl : l.length ≤ 1048576) : Ev (fun k => laws_eqAttrS.f k l l) true := by
  have h := all_all (n := l.length) (G := fun k i => laws_eqAttrS.l0 k l l i) (H := fun _ i => laws_eqAttr.f (rd_T86 l (i : Int)).f0 (rd_T86 l (i : Int)).f1 (rd_T86 l (i : Int)).f2 (rd_T86 l (i : Int)).f3 (rd_T86 l (i : Int)).f0 (rd_T86 l (i : Int)).f1 (rd_T86 l (i : Int)).f2 (rd_T86 l (i : Int)).f3)
    (fun k i hi => by simp only [laws_eqAttrS.l0]; rw [if_pos (by omega), if_pos (by omega), if_pos (by omega), w64 (by omega) (by omega)])
    (fun i hi => Ev.congr (fun k => eqAttr_f _) (Ev.now true)) (fun k => by simp only [laws_eqAttrS.l0]; rw [if_neg (by omega)])
  refine Ev.congr (fun k => ?_) h
  simp only [laws_eqAttrS.f]
  rw [if_pos trivial]
theorem rd_LNode (l : List S45) (i : Nat) (h : i < l.length) : rd_T45 l (i : Int) = l[i] := by simp [rd_T45, List.getD_eq_getElem?_getD, List.getElem?_eq_getElem h]
theorem rd_INode (l : List S40) (i : Nat) (h : i < l.length) : rd_T40 l (i : Int) = l[i] := by simp [rd_T40, List.getD_eq_getElem?_getD, List.getElem?_eq_getElem h]
theorem kidL (x y : S45) (h : y ∈ x.f6) : SizeOf.sizeOf y < SizeOf.sizeOf x := by
  have := List.sizeOf_lt_of_mem h
  cases x
  simp at this ⊢
  omega
theorem kidI (x y : S40) (h : y ∈ x.f6) : SizeOf.sizeOf y < SizeOf.sizeOf x := by
  have := List.sizeOf_lt_of_mem h
  cases x
  simp at this ⊢
  omega
theorem indL {P : S45 → Prop} (h : ∀ x, (∀ y ∈ x.f6, P y) → P x) (x : S45) : P x := by
  have : ∀ n (x : S45), SizeOf.sizeOf x < n → P x := by
    intro n
    induction n with
    | zero => intro x hx; omega
    | succ n ih => intro x hx; exact h x (fun y hy => ih y (by have := kidL x y hy; omega))
  exact this _ x (Nat.lt_succ_self _)
theorem indI {P : S40 → Prop} (h : ∀ x, (∀ y ∈ x.f6, P y) → P x) (x : S40) : P x := by
  have : ∀ n (x : S40), SizeOf.sizeOf x < n → P x := by
    intro n
    induction n with
    | zero => intro x hx; omega
    | succ n ih => intro x hx; exact h x (fun y hy => ih y (by have := kidI x y hy; omega))
  exact this _ x (Nat.lt_succ_self _)
mutual
def wNode : S45 → Int
  | ⟨_, a, b, c, ds, ats, ks, t⟩ => (a.size : Int) + (b.size : Int) + (c.size : Int) + ((ds.length : Int) + sumOf wDecl ds) + ((ats.length : Int) + sumOf wAttr ats) + ((ks.length : Int) + wNodes ks) + (t.size : Int)
def wNodes : List S45 → Int
  | [] => 0
  | x :: xs => wNode x + wNodes xs
end
theorem wNodes_eq (l : List S45) : wNodes l = sumOf wNode l := by
  induction l with
  | nil => rfl
  | cons x l ih => rw [sumOf_cons, ← ih]; rfl
theorem wNode_eq (x : S45) : wNode x = (x.f1.size : Int) + (x.f2.size : Int) + (x.f3.size : Int) + ((x.f4.length : Int) + sumOf wDecl x.f4) + ((x.f5.length : Int) + sumOf wAttr x.f5) + ((x.f6.length : Int) + sumOf wNode x.f6) + (x.f7.size : Int) := by
  cases x
  rw [wNode, wNodes_eq]
theorem sum_nonneg_of {α : Type} {w : α → Int} {l : List α} (h : ∀ x ∈ l, 0 ≤ w x) : 0 ≤ sumOf w l := by
  induction l with
  | nil => exact Int.le_refl _
  | cons z m ihm => rw [sumOf_cons]; have := h z (List.mem_cons_self ..); have := ihm (fun x hx => h x (List.mem_cons_of_mem _ hx)); omega
theorem wNode_nonneg (x : S45) : 0 ≤ wNode x := by
  induction x using indL with
  | h x ih =>
    rw [wNode_eq]
    have := sumOf_nonneg wDecl_nonneg x.f4
    have := sumOf_nonneg wAttr_nonneg x.f5
    have := sum_nonneg_of ih
    omega
theorem wNode_bounds (x : S45) : (x.f4.length : Int) ≤ wNode x ∧ (x.f5.length : Int) ≤ wNode x ∧ (x.f6.length : Int) ≤ wNode x ∧ sumOf wNode x.f6 ≤ wNode x ∧ ∀ y ∈ x.f6, wNode y ≤ wNode x := by
  rw [wNode_eq]
  have := sumOf_nonneg wDecl_nonneg x.f4
  have := sumOf_nonneg wAttr_nonneg x.f5
  have := sumOf_nonneg wNode_nonneg x.f6
  refine ⟨by omega, by omega, by omega, by omega, fun y hy => ?_⟩
  have := sumOf_mem wNode_nonneg hy
  omega
mutual
def convNode : S45 → S40
  | ⟨k, a, b, c, ds, ats, ks, t⟩ => ⟨k, a, b, c, ds.map convDecl, ats.map convAttr, convNodes ks, t⟩
def convNodes : List S45 → List S40
  | [] => []
  | x :: xs => convNode x :: convNodes xs
end
theorem convNodes_eq (l : List S45) : convNodes l = l.map convNode := by
  induction l with
  | nil => rfl
  | cons x l ih => rw [List.map_cons, ← ih]; rfl
theorem convNode_eq (x : S45) : convNode x = ⟨x.f0, x.f1, x.f2, x.f3, x.f4.map convDecl, x.f5.map convAttr, x.f6.map convNode, x.f7⟩ := by
  cases x
  rw [convNode, convNodes_eq]
mutual
def vNode : S40 → Int
  | ⟨_, _, _, _, ds, ats, ks, _⟩ => (ds.length : Int) + (ats.length : Int) + ((ks.length : Int) + vNodes ks)
def vNodes : List S40 → Int
  | [] => 0
  | x :: xs => vNode x + vNodes xs
end
theorem vNodes_eq (l : List S40) : vNodes l = sumOf vNode l := by
  induction l with
  | nil => rfl
  | cons x l ih => rw [sumOf_cons, ← ih]; rfl
theorem vNode_eq (x : S40) : vNode x = (x.f4.length : Int) + (x.f5.length : Int) + ((x.f6.length : Int) + sumOf vNode x.f6) := by
  cases x
  rw [vNode, vNodes_eq]
theorem vNode_nonneg (x : S40) : 0 ≤ vNode x := by
  induction x using indI with
  | h x ih =>
    rw [vNode_eq]
    have := sum_nonneg_of ih
    omega
theorem vNode_bounds (x : S40) : (x.f4.length : Int) ≤ vNode x ∧ (x.f5.length : Int) ≤ vNode x ∧ (x.f6.length : Int) ≤ vNode x ∧ sumOf vNode x.f6 ≤ vNode x ∧ ∀ y ∈ x.f6, vNode y ≤ vNode x := by
  rw [vNode_eq]
  have := sumOf_nonneg vNode_nonneg x.f6
  refine ⟨by omega, by omega, by omega, by omega, fun y hy => ?_⟩
  have := sumOf_mem vNode_nonneg hy
  omega
theorem sumOf_map_le {α β : Type} {f : α → β} {v : β → Int} {w : α → Int} {l : List α} (h : ∀ x ∈ l, v (f x) ≤ w x) : sumOf v (l.map f) ≤ sumOf w l := by
  induction l with
  | nil => exact Int.le_refl _
  | cons z m ihm => rw [List.map_cons, sumOf_cons, sumOf_cons]; have := h z (List.mem_cons_self ..); have := ihm (fun x hx => h x (List.mem_cons_of_mem _ hx)); omega
theorem vNode_conv (x : S45) : vNode (convNode x) ≤ wNode x := by
  induction x using indL with
  | h x ih =>
    rw [wNode_eq, convNode_eq, vNode_eq]
    have := sumOf_nonneg wDecl_nonneg x.f4
    have := sumOf_nonneg wAttr_nonneg x.f5
    have := sumOf_map_le ih
    simp only [List.length_map]
    omega
theorem szNodeS_of (l : List S45) (hl : l.length ≤ maxLen) (hx : ∀ x ∈ l, ∀ left, 0 ≤ left → left ≤ 1048576 → ∃ r, Ev (fun k => laws_szNode.f k x.f0 x.f1 x.f2 x.f3 x.f4 x.f5 x.f6 x.f7 left) r ∧ (0 ≤ r → r + wNode x = left)) (left : Int) (h0 : 0 ≤ left) (h1 : left ≤ 1048576) :
    ∃ r, Ev (fun k => laws_szNodeS.f k l left) r ∧ (0 ≤ r → r + ((l.length : Int) + sumOf wNode l) = left) := by
  unfold maxLen at hl
  have e : wrap64 (left - (l.length : Int)) = left - (l.length : Int) := w64 (by omega) (by omega)
  by_cases hn : left - (l.length : Int) < 0
  · exact ⟨-1, Ev.step (fun k => by simp only [laws_szNodeS.f]; rw [e, if_pos hn]) (Ev.now _), fun h => by omega⟩
  · obtain ⟨r, hr, hrw⟩ := size_all (l := l) (w := wNode) (M := 1048576) (G := fun k left i => laws_szNodeS.l0 k l left i) (H := fun k left i => laws_szNode.f k (rd_T45 l (i : Int)).f0 (rd_T45 l (i : Int)).f1 (rd_T45 l (i : Int)).f2 (rd_T45 l (i : Int)).f3 (rd_T45 l (i : Int)).f4 (rd_T45 l (i : Int)).f5 (rd_T45 l (i : Int)).f6 (rd_T45 l (i : Int)).f7 left) wNode_nonneg
      (fun k left i h0 hi => by simp only [laws_szNodeS.l0]; rw [if_pos (by omega), if_pos (by omega), w64 (by omega) (by omega)]; rfl)
      (fun i hi left h0 h1 => by
        obtain ⟨r, a, b⟩ := hx l[i] (List.getElem_mem hi) left h0 h1
        exact ⟨r, Ev.congr (fun k => by rw [rd_LNode l i hi]) a, b⟩)
      (fun k left h0 => by simp only [laws_szNodeS.l0]; rw [if_neg (by omega)]) (left - (l.length : Int)) (by omega) (by omega)
    exact ⟨r, Ev.step (fun k => by simp only [laws_szNodeS.f]; rw [e, if_neg hn]) hr, fun h => by have := hrw h; omega⟩
theorem szNode_f (x : S45) : WF45 x → ∀ left, 0 ≤ left → left ≤ 1048576 → ∃ r, Ev (fun k => laws_szNode.f k x.f0 x.f1 x.f2 x.f3 x.f4 x.f5 x.f6 x.f7 left) r ∧ (0 ≤ r → r + wNode x = left) := by
  induction x using indL with
  | h x ih =>
    intro hw left h0 h1
    obtain ⟨_, s0, s1, s2, s3, s4, s5, g6, s6, s7⟩ := hw
    unfold maxLen at s1 s2 s3 s7
    have nd := sumOf_nonneg wDecl_nonneg x.f4
    have na := sumOf_nonneg wAttr_nonneg x.f5
    have nk := sumOf_nonneg wNode_nonneg x.f6
    rw [wNode_eq]
    have e1 : wrap64 (left - (x.f1.size : Int)) = left - (x.f1.size : Int) := w64 (by omega) (by omega)
    by_cases n1 : left - (x.f1.size : Int) < 0
    · exact ⟨-1, Ev.congr (fun k => by simp only [laws_szNode.f, laws_szNode.F]; rw [e1, if_pos n1]) (Ev.now _), fun h => by omega⟩
    have e2 : wrap64 (left - (x.f1.size : Int) - (x.f2.size : Int)) = left - (x.f1.size : Int) - (x.f2.size : Int) := w64 (by omega) (by omega)
    by_cases n2 : left - (x.f1.size : Int) - (x.f2.size : Int) < 0
    · exact ⟨-1, Ev.congr (fun k => by simp only [laws_szNode.f, laws_szNode.F]; rw [e1, if_neg n1, e2, if_pos n2]) (Ev.now _), fun h => by omega⟩
    have e3 : wrap64 (left - (x.f1.size : Int) - (x.f2.size : Int) - (x.f3.size : Int)) = left - (x.f1.size : Int) - (x.f2.size : Int) - (x.f3.size : Int) := w64 (by omega) (by omega)
    by_cases n3 : left - (x.f1.size : Int) - (x.f2.size : Int) - (x.f3.size : Int) < 0
    · exact ⟨-1, Ev.congr (fun k => by simp only [laws_szNode.f, laws_szNode.F]; rw [e1, if_neg n1, e2, if_neg n2, e3, if_pos n3]) (Ev.now _), fun h => by omega⟩
    have hd : ∀ (r : Int) (g : Nat → Option Int), Ev (fun k => (laws_szDeclS.f k x.f4 (left - (x.f1.size : Int) - (x.f2.size : Int) - (x.f3.size : Int))).bind fun t108 => (if t108 < 0 then (some (-1)) else ((laws_szAttrS.f k x.f5 t108).bind fun t109 => (if t109 < 0 then (some (-1)) else ((laws_szNodeS.f k x.f6 t109).bind fun t110 => (if t110 < 0 then (some (-1)) else (if (wrap64 (t110 - (x.f7.size : Int))) < 0 then (some (-1)) else (some (wrap64 (t110 - (x.f7.size : Int))))))))))) r → Ev (fun k => laws_szNode.f k x.f0 x.f1 x.f2 x.f3 x.f4 x.f5 x.f6 x.f7 left) r := fun r g h =>
      Ev.congr (fun k => by simp only [laws_szNode.f, laws_szNode.F]; rw [e1, if_neg n1, e2, if_neg n2, e3, if_neg n3]) h
    obtain ⟨r4, hr4, hw4⟩ := szDeclS_f x.f4 s4 (left - (x.f1.size : Int) - (x.f2.size : Int) - (x.f3.size : Int)) (by omega) (by omega)
    by_cases n4 : r4 < 0
    · exact ⟨-1, hd _ (fun _ => none) (Ev.bind hr4 (Ev.congr (fun k => by rw [if_pos n4]) (Ev.now _))), fun h => by omega⟩
    have w4 := hw4 (by omega)
    obtain ⟨r5, hr5, hw5⟩ := szAttrS_f x.f5 s5 r4 (by omega) (by omega)
    by_cases n5 : r5 < 0
    · exact ⟨-1, hd _ (fun _ => none) (Ev.bind hr4 (Ev.congr (fun k => by rw [if_neg n4]) (Ev.bind hr5 (Ev.congr (fun k => by rw [if_pos n5]) (Ev.now _))))), fun h => by omega⟩
    have w5 := hw5 (by omega)
    obtain ⟨r6, hr6, hw6⟩ := szNodeS_of x.f6 g6 (fun y hy => ih y hy (s6 y hy)) r5 (by omega) (by omega)
    by_cases n6 : r6 < 0
    · exact ⟨-1, hd _ (fun _ => none) (Ev.bind hr4 (Ev.congr (fun k => by rw [if_neg n4]) (Ev.bind hr5 (Ev.congr (fun k => by rw [if_neg n5]) (Ev.bind hr6 (Ev.congr (fun k => by rw [if_pos n6]) (Ev.now _))))))), fun h => by omega⟩
    have w6 := hw6 (by omega)
    have e7 : wrap64 (r6 - (x.f7.size : Int)) = r6 - (x.f7.size : Int) := w64 (by omega) (by omega)
    by_cases n7 : r6 - (x.f7.size : Int) < 0
    · exact ⟨-1, hd _ (fun _ => none) (Ev.bind hr4 (Ev.congr (fun k => by rw [if_neg n4]) (Ev.bind hr5 (Ev.congr (fun k => by rw [if_neg n5]) (Ev.bind hr6 (Ev.congr (fun k => by rw [if_neg n6, e7, if_pos n7]) (Ev.now _))))))), fun h => by omega⟩
    · exact ⟨r6 - (x.f7.size : Int), hd _ (fun _ => none) (Ev.bind hr4 (Ev.congr (fun k => by rw [if_neg n4]) (Ev.bind hr5 (Ev.congr (fun k => by rw [if_neg n5]) (Ev.bind hr6 (Ev.congr (fun k => by rw [if_neg n6, e7, if_neg n7]) (Ev.now _))))))), fun h => by omega⟩
theorem szNodeS_f (l : List S45) (hl : l.length ≤ maxLen ∧ ∀ x ∈ l, WF45 x) (left : Int) (h0 : 0 ≤ left) (h1 : left ≤ 1048576) :
    ∃ r, Ev (fun k => laws_szNodeS.f k l left) r ∧ (0 ≤ r → r + ((l.length : Int) + sumOf wNode l) = left) :=
  szNodeS_of l hl.1 (fun x hx => szNode_f x (hl.2 x hx)) left h0 h1
theorem toNodeS_of (l : List S45) (hl : l.length ≤ 1048576) (hx : ∀ x ∈ l, Ev (fun k => laws_toNode.f k x.f0 x.f1 x.f2 x.f3 x.f4 x.f5 x.f6 x.f7) (x.f0, x.f1, x.f2, x.f3, x.f4.map convDecl, x.f5.map convAttr, x.f6.map convNode, x.f7)) : Ev (fun k => laws_toNodeS.f k l) (l.map convNode) := by
  have h := copy_all (l := l) (f := convNode) (G := fun k x i => laws_toNodeS.l0 k l x i) (H := fun k i => (laws_toNode.f k (rd_T45 l (i : Int)).f0 (rd_T45 l (i : Int)).f1 (rd_T45 l (i : Int)).f2 (rd_T45 l (i : Int)).f3 (rd_T45 l (i : Int)).f4 (rd_T45 l (i : Int)).f5 (rd_T45 l (i : Int)).f6 (rd_T45 l (i : Int)).f7).bind fun q => some (⟨q.1, q.2.1, q.2.2.1, q.2.2.2.1, q.2.2.2.2.1, q.2.2.2.2.2.1, q.2.2.2.2.2.2.1, q.2.2.2.2.2.2.2⟩ : S40)) (List.replicate l.length z40) (by simp)
    (fun k x i hx hi => by
      simp only [laws_toNodeS.l0]
      rw [if_pos (by omega), if_pos (by omega), w64 (by omega) (by omega), Int.toNat_natCast, Option.bind_assoc]
      simp only [Option.bind_some]
      simp only [show (i : Int) < (x.length : Int) from by omega, if_true]
      rfl)
    (fun i hi => by
      rw [rd_LNode l i hi]
      refine Ev.bind (hx l[i] (List.getElem_mem hi)) ?_
      rw [convNode_eq]
      exact Ev.now _) (fun k x hx => by simp only [laws_toNodeS.l0]; rw [if_neg (by omega)])
  refine Ev.step (fun k => ?_) h
  simp only [laws_toNodeS.f, Int.toNat_natCast]
  rw [if_pos (by omega), if_pos (by omega)]
theorem toNode_f (x : S45) : wNode x ≤ 1048576 → Ev (fun k => laws_toNode.f k x.f0 x.f1 x.f2 x.f3 x.f4 x.f5 x.f6 x.f7) (x.f0, x.f1, x.f2, x.f3, x.f4.map convDecl, x.f5.map convAttr, x.f6.map convNode, x.f7) := by
  induction x using indL with
  | h x ih =>
    intro hw
    obtain ⟨b4, b5, b6, _, bk⟩ := wNode_bounds x
    refine Ev.congr (g := fun k => laws_toNode.f k x.f0 x.f1 x.f2 x.f3 x.f4 x.f5 x.f6 x.f7) (f := fun k => (laws_toDeclS.f k x.f4).bind fun d => (laws_toAttrS.f k x.f5).bind fun a => (laws_toNodeS.f k x.f6).bind fun n => some (x.f0, x.f1, x.f2, x.f3, d, a, n, x.f7)) (fun k => rfl) ?_
    refine Ev.bind (toDeclS_f x.f4 (by omega)) (Ev.bind (toAttrS_f x.f5 (by omega)) (Ev.bind (toNodeS_of x.f6 (by omega) (fun y hy => ih y hy (by have := bk y hy; omega))) (Ev.now _)))
theorem toNodeS_f (l : List S45) (hl : l.length ≤ 1048576) (hw : ∀ x ∈ l, wNode x ≤ 1048576) : Ev (fun k => laws_toNodeS.f k l) (l.map convNode) :=
  toNodeS_of l hl (fun x hx => toNode_f x (hw x hx))
theorem eqNodeS_of (l : List S40) (hl : l.length ≤ 1048576) (hx : ∀ x ∈ l, Ev (fun k => laws_eqNode.f k x.f0 x.f1 x.f2 x.f3 x.f4 x.f5 x.f6 x.f7 x.f0 x.f1 x.f2 x.f3 x.f4 x.f5 x.f6 x.f7) true) : Ev (fun k => laws_eqNodeS.f k l l) true := by
  have h := all_all (n := l.length) (G := fun k i => laws_eqNodeS.l0 k l l i) (H := fun k i => laws_eqNode.f k (rd_T40 l (i : Int)).f0 (rd_T40 l (i : Int)).f1 (rd_T40 l (i : Int)).f2 (rd_T40 l (i : Int)).f3 (rd_T40 l (i : Int)).f4 (rd_T40 l (i : Int)).f5 (rd_T40 l (i : Int)).f6 (rd_T40 l (i : Int)).f7 (rd_T40 l (i : Int)).f0 (rd_T40 l (i : Int)).f1 (rd_T40 l (i : Int)).f2 (rd_T40 l (i : Int)).f3 (rd_T40 l (i : Int)).f4 (rd_T40 l (i : Int)).f5 (rd_T40 l (i : Int)).f6 (rd_T40 l (i : Int)).f7)
    (fun k i hi => by simp only [laws_eqNodeS.l0]; rw [if_pos (by omega), if_pos (by omega), if_pos (by omega), w64 (by omega) (by omega)]; rfl)
    (fun i hi => by rw [rd_INode l i hi]; exact hx l[i] (List.getElem_mem hi)) (fun k => by simp only [laws_eqNodeS.l0]; rw [if_neg (by omega)])
  refine Ev.step (fun k => ?_) h
  simp only [laws_eqNodeS.f]
  rw [if_pos trivial]
theorem eqNode_f (x : S40) : vNode x ≤ 1048576 → Ev (fun k => laws_eqNode.f k x.f0 x.f1 x.f2 x.f3 x.f4 x.f5 x.f6 x.f7 x.f0 x.f1 x.f2 x.f3 x.f4 x.f5 x.f6 x.f7) true := by
  induction x using indI with
  | h x ih =>
    intro hw
    obtain ⟨b4, b5, b6, _, bk⟩ := vNode_bounds x
    refine Ev.congr (f := fun k => (laws_eqDeclS.f k x.f4 x.f4).bind fun t => (if t = true then ((laws_eqAttrS.f k x.f5 x.f5).bind fun t => (if t = true then ((laws_eqNodeS.f k x.f6 x.f6).bind fun t => (if t = true then some true else some false)) else (some false))) else (some false))) (fun k => by simp [laws_eqNode.f, laws_eqNode.F]) ?_
    refine Ev.bind (eqDeclS_f x.f4 (by omega)) (Ev.congr (fun k => by rw [if_pos rfl]) (Ev.bind (eqAttrS_f x.f5 (by omega)) (Ev.congr (fun k => by rw [if_pos rfl]) (Ev.bind (eqNodeS_of x.f6 (by omega) (fun y hy => ih y hy (by have := bk y hy; omega))) (Ev.congr (fun k => by rw [if_pos rfl]) (Ev.now _))))))
theorem eqNodeS_f (l : List S40) (hl : l.length ≤ 1048576) (hw : ∀ x ∈ l, vNode x ≤ 1048576) : Ev (fun k => laws_eqNodeS.f k l l) true :=
  eqNodeS_of l hl (fun x hx => eqNode_f x (hw x hx))
mutual
def cntNode : S40 → Int
  | ⟨_, _, _, _, _, ats, ks, _⟩ => 1 + (ats.length : Int) + cntNodes ks
def cntNodes : List S40 → Int
  | [] => 0
  | x :: xs => cntNode x + cntNodes xs
end
theorem cntNodes_eq (l : List S40) : cntNodes l = sumOf cntNode l := by
  induction l with
  | nil => rfl
  | cons x l ih => rw [sumOf_cons, ← ih]; rfl
theorem cntNode_eq (x : S40) : cntNode x = 1 + (x.f5.length : Int) + sumOf cntNode x.f6 := by
  cases x
  rw [cntNode, cntNodes_eq]
theorem cntNode_pos (x : S40) : 0 ≤ cntNode x := by
  induction x using indI with
  | h x ih =>
    rw [cntNode_eq]
    have := sum_nonneg_of ih
    omega
theorem sum_le_len {α : Type} {v w : α → Int} {l : List α} (h : ∀ x ∈ l, v x ≤ 1 + w x) : sumOf v l ≤ (l.length : Int) + sumOf w l := by
  induction l with
  | nil => exact Int.le_refl _
  | cons z m ihm => rw [sumOf_cons, sumOf_cons]; have := h z (List.mem_cons_self ..); have := ihm (fun x hx => h x (List.mem_cons_of_mem _ hx)); simp only [List.length_cons]; omega
theorem cntNode_le (x : S40) : cntNode x ≤ 1 + vNode x := by
  induction x using indI with
  | h x ih =>
    rw [cntNode_eq, vNode_eq]
    have := sum_le_len ih
    omega
theorem spec_CountOf_f (x : S40) : vNode x ≤ 1048576 → Ev (fun k => spec_CountOf.f k x.f0 x.f1 x.f2 x.f3 x.f4 x.f5 x.f6 x.f7) (cntNode x) := by
  induction x using indI with
  | h x ih =>
    intro hv
    obtain ⟨b4, b5, b6, bs, bk⟩ := vNode_bounds x
    have hle := cntNode_le x
    rw [cntNode_eq] at hle
    have h := sum_all (l := x.f6) (c := cntNode) (M := 9223372036854775807) (by omega) (G := fun k acc i => spec_CountOf.l0 k acc i x.f0 x.f1 x.f2 x.f3 x.f4 x.f5 x.f6 x.f7)
      (H := fun k i => spec_CountOf.f k (rd_T40 x.f6 (i : Int)).f0 (rd_T40 x.f6 (i : Int)).f1 (rd_T40 x.f6 (i : Int)).f2 (rd_T40 x.f6 (i : Int)).f3 (rd_T40 x.f6 (i : Int)).f4 (rd_T40 x.f6 (i : Int)).f5 (rd_T40 x.f6 (i : Int)).f6 (rd_T40 x.f6 (i : Int)).f7)
      (fun y _ => cntNode_pos y) (fun k acc i hi => by simp only [spec_CountOf.l0]; rw [if_pos (by omega), if_pos (by omega), w64 (i := (i : Int) + 1) (by omega) (by omega)])
      (fun i hi => by rw [rd_INode _ i hi]; exact ih _ (List.getElem_mem hi) (by have := bk _ (List.getElem_mem hi); omega)) (fun k acc => by simp only [spec_CountOf.l0]; rw [if_neg (by omega)]) (1 + (x.f5.length : Int)) (by omega) (by omega)
    rw [cntNode_eq]
    exact Ev.step (fun k => by simp only [spec_CountOf.f]; rw [w64 (by omega) (by omega)]) h
theorem impl_CountOf_f (x : S40) : vNode x ≤ 1048576 → Ev (fun k => impl_CountOf.f k x.f0 x.f1 x.f2 x.f3 x.f4 x.f5 x.f6 x.f7) (cntNode x) := by
  induction x using indI with
  | h x ih =>
    intro hv
    obtain ⟨b4, b5, b6, bs, bk⟩ := vNode_bounds x
    have hle := cntNode_le x
    rw [cntNode_eq] at hle
    have h := sum_all (l := x.f6) (c := cntNode) (M := 9223372036854775807) (by omega) (G := fun k acc i => impl_CountOf.l0 k acc x.f6 (x.f6.length : Int) i)
      (H := fun k i => impl_CountOf.f k (rd_T40 x.f6 (i : Int)).f0 (rd_T40 x.f6 (i : Int)).f1 (rd_T40 x.f6 (i : Int)).f2 (rd_T40 x.f6 (i : Int)).f3 (rd_T40 x.f6 (i : Int)).f4 (rd_T40 x.f6 (i : Int)).f5 (rd_T40 x.f6 (i : Int)).f6 (rd_T40 x.f6 (i : Int)).f7)
      (fun y _ => cntNode_pos y) (fun k acc i hi => by simp only [impl_CountOf.l0]; rw [if_pos (by omega), if_pos (by omega), if_pos (by omega), w64 (i := (i : Int) + 1) (by omega) (by omega)])
      (fun i hi => by rw [rd_INode _ i hi]; exact ih _ (List.getElem_mem hi) (by have := bk _ (List.getElem_mem hi); omega)) (fun k acc => by simp only [impl_CountOf.l0]; rw [if_neg (by omega)]) (1 + (x.f5.length : Int)) (by omega) (by omega)
    rw [cntNode_eq]
    exact Ev.step (fun k => by simp only [impl_CountOf.f]; rw [w64 (by omega) (by omega)]) h
theorem FnExactCountOf : laws_FnExactCountOf.Pure := by
  intro x hw
  obtain ⟨r, hr, hrw⟩ := szNode_f x hw 1048576 (by omega) (by omega)
  refine Ev.rounds (r := true) ?_
  refine Ev.congr (fun k => by simp only [laws_FnExactCountOf.f]; rfl) (Ev.bind hr ?_)
  by_cases hn : r < 0
  · exact Ev.congr (fun k => by rw [if_pos hn]) (Ev.now _)
  have hwn : wNode x ≤ 1048576 := by have := hrw (by omega); omega
  have hv : vNode (convNode x) ≤ 1048576 := by have := vNode_conv x; omega
  have ht := toNode_f x hwn
  have hs := spec_CountOf_f (convNode x) hv
  have hi := impl_CountOf_f (convNode x) hv
  have he := eqNode_f (convNode x) hv
  generalize cntNode (convNode x) = c at hs hi
  rw [convNode_eq] at hs hi he
  refine Ev.congr (fun k => by rw [if_neg hn]) (Ev.bind ht (Ev.bind hs (Ev.bind ht (Ev.bind hi ?_))))
  refine Ev.congr (fun k => by rw [if_pos rfl]) (Ev.bind ht ?_)
  refine Ev.bind he ?_
  exact Ev.congr (fun k => by rw [if_pos rfl]) (Ev.now _)

end FnExactCountOf_
theorem FnExactCountOf : laws_FnExactCountOf.Pure := FnExactCountOf_.FnExactCountOf
end Go.Proofs.Ytceeaabjkljcpaa.Pure
