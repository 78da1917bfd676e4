/- Merged texts have what they had, none stands beside another one, merged again they are the same; the reference merges alike.
Conditions: none. -/
import Derived.Test.YtdbinpeglamnnaaPMx9
import Derived.Lib.Strings
import Derived.Test.YtdbinpeglamnnaaLists
namespace Go.Proofs.Ytdbinpeglamnnaa.Pure
open Go.RowKit Go.Proofs.Ytdbinpeglamnnaa.PM Go.Proofs.YtdbinpeglamnnaaW.PrintWords Go.Proofs.YtdbinpeglamnnaaW.PrintLast Go.Proofs.Ytdbinpeglamnnaa.Lists
set_option linter.unusedVariables false
set_option linter.unusedSimpArgs false

namespace FnMerges_
theorem w64 {i : Int} (h0 : -9223372036854775808 ≤ i) (h1 : i ≤ 9223372036854775807) : wrap64 i = i := by unfold wrap64; omega
theorem rd_IDecl (l : List S88) (i : Nat) (h : i < l.length) : rd_T88 l (i : Int) = l[i] := by simp [rd_T88, List.getD_eq_getElem?_getD, List.getElem?_eq_getElem h]
theorem rd_INode (l : List S34) (i : Nat) (h : i < l.length) : rd_T34 l (i : Int) = l[i] := by simp [rd_T34, List.getD_eq_getElem?_getD, List.getElem?_eq_getElem h]
theorem kidI (x y : S34) (h : y ∈ x.f6) : SizeOf.sizeOf y < SizeOf.sizeOf x := by
 have := List.sizeOf_lt_of_mem h
 cases x
 simp at this ⊢
 omega
theorem indI {P : S34 → Prop} (h : ∀ x, (∀ y ∈ x.f6, P y) → P x) (x : S34) : P x := by
 have : ∀ n (x : S34), SizeOf.sizeOf x < n → P x := by
  intro n
  induction n with
  | zero => intro x hx; omega
  | succ n ih => intro x hx; exact h x (fun y hy => ih y (by have := kidI x y hy; omega))
 exact this _ x (Nat.lt_succ_self _)
theorem sum_nonneg_of {α : Type} {w : α → Int} {l : List α} (h : ∀ x ∈ l, 0 ≤ w x) : 0 ≤ sumOf w l := by
 induction l with
 | nil => exact Int.le_refl _
 | cons z m ihm => rw [sumOf_cons]; have := h z (List.mem_cons_self ..); have := ihm (fun x hx => h x (List.mem_cons_of_mem _ hx)); omega
mutual
def vNode : S34 → Int
 | ⟨_, _, _, _, ds, ats, ks, _⟩ => (ds.length : Int) + (ats.length : Int) + ((ks.length : Int) + vNodes ks)
def vNodes : List S34 → Int
 | [] => 0
 | x :: xs => vNode x + vNodes xs
end
theorem vNodes_eq (l : List S34) : vNodes l = sumOf vNode l := by
 induction l with
 | nil => rfl
 | cons x l ih => rw [sumOf_cons, ← ih]; rfl
theorem vNode_eq (x : S34) : vNode x = (x.f4.length : Int) + (x.f5.length : Int) + ((x.f6.length : Int) + sumOf vNode x.f6) := by
 cases x
 rw [vNode, vNodes_eq]
theorem vNode_n (x : S34) : 0 ≤ vNode x := by
 induction x using indI with
 | h x ih =>
  rw [vNode_eq]
  have := sum_nonneg_of ih
  omega
theorem vNode_bounds (x : S34) : (x.f4.length : Int) ≤ vNode x ∧ (x.f5.length : Int) ≤ vNode x ∧ (x.f6.length : Int) ≤ vNode x ∧ sumOf vNode x.f6 ≤ vNode x ∧ ∀ y ∈ x.f6, vNode y ≤ vNode x := by
 rw [vNode_eq]
 have := sumOf_nonneg vNode_n x.f6
 refine ⟨by omega, by omega, by omega, by omega, fun y hy => ?_⟩
 have := sumOf_mem vNode_n hy
 omega
theorem nodeEta (y : S34) : (⟨y.f0, y.f1, y.f2, y.f3, y.f4, y.f5, y.f6, y.f7⟩ : S34) = y := by cases y; rfl
theorem app_from {α : Type} {l : List α} {G : Nat → List α → Int → Option (List α)} {H : Nat → Nat → Option α}
  (hs : ∀ k acc (i : Nat), acc.length = i → i < l.length → G (k + 1) acc (i : Int) = (H k i).bind fun t => G k (acc ++ [t]) ((i + 1 : Nat) : Int))
  (hH : ∀ (i : Nat) (h : i < l.length), Ev (fun k => H k i) l[i]) (he : ∀ k acc, acc.length = l.length → G (k + 1) acc (l.length : Int) = some acc) (d : Nat) :
  ∀ (i : Nat) (acc : List α), i ≤ l.length → l.length - i = d → acc = l.take i → Ev (fun k => G k acc (i : Int)) l := by
 induction d with
 | zero =>
  intro i acc hi hd ha
  have e : i = l.length := by omega
  subst e
  rw [List.take_length] at ha
  subst ha
  exact Ev.step (f := fun _ => some acc) (fun k => he k acc rfl) (Ev.now _)
 | succ d ih =>
  intro i acc hi hd ha
  have hlt : i < l.length := by omega
  refine Ev.step (fun k => hs k acc i (by rw [ha, List.length_take]; omega) hlt) (Ev.bind (hH i hlt) ?_)
  exact ih (i + 1) _ (by omega) (by omega) (by rw [ha, List.take_succ_eq_append_getElem hlt])
theorem l5Copy_f (x : S34) : vNode x ≤ 1048576 → Ev (fun k => spec_l5Copy.f k x.f0 x.f1 x.f2 x.f3 x.f4 x.f5 x.f6 x.f7) (x.f0, x.f1, x.f2, x.f3, x.f4, x.f5, x.f6, x.f7) := by
 induction x using indI with
 | h x ih =>
  intro hv
  obtain ⟨b4, b5, b6, bs, bk⟩ := vNode_bounds x
  have hk : Ev (fun k => spec_l5All.f k x.f6) x.f6 := by
   have h := app_from (l := x.f6) (G := fun k acc i => spec_l5All.l0 k x.f6 acc i) (H := fun k i => (spec_l5Copy.f k (rd_T34 x.f6 (i : Int)).f0 (rd_T34 x.f6 (i : Int)).f1 (rd_T34 x.f6 (i : Int)).f2 (rd_T34 x.f6 (i : Int)).f3 (rd_T34 x.f6 (i : Int)).f4 (rd_T34 x.f6 (i : Int)).f5 (rd_T34 x.f6 (i : Int)).f6 (rd_T34 x.f6 (i : Int)).f7).bind fun q => some (⟨q.1, q.2.1, q.2.2.1, q.2.2.2.1, q.2.2.2.2.1, q.2.2.2.2.2.1, q.2.2.2.2.2.2.1, q.2.2.2.2.2.2.2⟩ : S34))
    (fun k acc i ha hi => by
     have c1 : (i : Int) < (x.f6.length : Int) := by omega
     have c0 : (0 : Int) ≤ (i : Int) := by omega
     have c2 : acc.length < 977343669134 := by omega
     have wi : wrap64 ((i : Int) + 1) = ((i + 1 : Nat) : Int) := by rw [w64 (by omega) (by omega)]; omega
     simp only [spec_l5All.l0]
     rw [if_pos c1, if_pos c0, wi, Option.bind_assoc]
     simp only [c2, if_true, Option.bind_some]
     rfl)
    (fun i hi => by
     rw [rd_INode _ i hi]
     refine Ev.bind (ih _ (List.getElem_mem hi) (by have := bk _ (List.getElem_mem hi); omega)) ?_
     exact Ev.congr (f := fun _ => some x.f6[i]) (fun k => congrArg some (nodeEta _)) (Ev.now _))
    (fun k acc ha => by simp only [spec_l5All.l0]; rw [if_neg (by omega)]) x.f6.length 0 [] (by omega) (by omega) rfl
   exact Ev.step (fun k => by simp only [spec_l5All.f]; rfl) h
  have c4 : ([] : List S88).length + x.f4.length < 4398046511104 := by simp; omega
  have c5 : ([] : List S90).length + x.f5.length < 2199023255552 := by simp; omega
  refine Ev.congr (fun k => by simp only [spec_l5Copy.f, spec_l5Copy.F, Option.bind_some]; rw [if_pos c4, if_pos c5]) (Ev.bind hk ?_)
  exact Ev.now _
theorem cloneNode_f (x : S34) : vNode x ≤ 1048576 → Ev (fun k => impl_cloneNode.f k x.f0 x.f1 x.f2 x.f3 x.f4 x.f5 x.f6 x.f7) (x.f0, x.f1, x.f2, x.f3, x.f4, x.f5, x.f6, x.f7) := by
 induction x using indI with
 | h x ih =>
  intro hv
  obtain ⟨b4, b5, b6, bs, bk⟩ := vNode_bounds x
  have hk : Ev (fun k => impl_cloneNodes.f k x.f6) x.f6 := by
   have h := app_from (l := x.f6) (G := fun k acc i => impl_cloneNodes.l0 k acc x.f6 (x.f6.length : Int) i) (H := fun k i => (impl_cloneNode.f k (rd_T34 x.f6 (i : Int)).f0 (rd_T34 x.f6 (i : Int)).f1 (rd_T34 x.f6 (i : Int)).f2 (rd_T34 x.f6 (i : Int)).f3 (rd_T34 x.f6 (i : Int)).f4 (rd_T34 x.f6 (i : Int)).f5 (rd_T34 x.f6 (i : Int)).f6 (rd_T34 x.f6 (i : Int)).f7).bind fun q => some (⟨q.1, q.2.1, q.2.2.1, q.2.2.2.1, q.2.2.2.2.1, q.2.2.2.2.2.1, q.2.2.2.2.2.2.1, q.2.2.2.2.2.2.2⟩ : S34))
    (fun k acc i ha hi => by
     have c1 : (i : Int) < (x.f6.length : Int) := by omega
     have c0 : (0 : Int) ≤ (i : Int) := by omega
     have c2 : acc.length < 977343669134 := by omega
     have wi : wrap64 ((i : Int) + 1) = ((i + 1 : Nat) : Int) := by rw [w64 (by omega) (by omega)]; omega
     simp only [impl_cloneNodes.l0]
     rw [if_pos c1, if_pos c0, if_pos c1, wi, Option.bind_assoc]
     simp only [c2, if_true, Option.bind_some]
     rfl)
    (fun i hi => by
     rw [rd_INode _ i hi]
     refine Ev.bind (ih _ (List.getElem_mem hi) (by have := bk _ (List.getElem_mem hi); omega)) ?_
     exact Ev.congr (f := fun _ => some x.f6[i]) (fun k => congrArg some (nodeEta _)) (Ev.now _))
    (fun k acc ha => by simp only [impl_cloneNodes.l0]; rw [if_neg (by omega)]) x.f6.length 0 [] (by omega) (by omega) rfl
   exact Ev.step (fun k => by simp only [impl_cloneNodes.f]; rfl) h
  have c4 : x.f4.length < 4398046511104 := by omega
  have c5 : x.f5.length < 2199023255552 := by omega
  refine Ev.congr (fun k => by simp only [impl_cloneNode.f, impl_cloneNode.F, impl_Decl_71.f, impl_Attr_72.f]; rw [if_pos c4, if_pos c5]; simp only [Option.bind_some]; rfl) (Ev.bind hk ?_)
  exact Ev.now _
theorem sumOf_append {α : Type} (w : α → Int) (l m : List α) : sumOf w (l ++ m) = sumOf w l + sumOf w m := by
 induction l with
 | nil => simp [sumOf_nil]
 | cons x l ih => rw [List.cons_append, sumOf_cons, sumOf_cons, ih]; omega
theorem sumOf_set {α : Type} (w : α → Int) (l : List α) : ∀ (i : Nat) (h : i < l.length) (y : α), w y = w l[i] → sumOf w (l.set i y) = sumOf w l := by
 induction l with
 | nil => intro i h; simp at h
 | cons x l ih =>
  intro i h y hy
  cases i with
  | zero => rw [List.set_cons_zero, sumOf_cons, sumOf_cons]; rw [hy]; rfl
  | succ i => rw [List.set_cons_succ, sumOf_cons, sumOf_cons, ih i (by simpa using h) y (by simpa using hy)]
def tS (x : S34) : Int := (x.f7.size : Int)
theorem tS_nonneg (x : S34) : 0 ≤ tS x := by unfold tS; omega
def glue (a b : S34) : S34 := ⟨a.f0, a.f1, a.f2, a.f3, a.f4, a.f5, a.f6, a.f7 ++ b.f7⟩
/-- One node is put to those that are merged. -/
def mgS (acc : List S34) (x : S34) : List S34 :=
 if x.f0 = 2 then
  if x.f7.toList = ([] : List UInt8) then acc
  else if h : 0 < acc.length then (if (acc[acc.length - 1]'(by omega)).f0 = 2 then acc.set (acc.length - 1) (glue (acc[acc.length - 1]'(by omega)) x) else acc ++ [x])
  else acc ++ [x]
 else acc ++ [x]
theorem mgS_t {acc : List S34} {x : S34} (k2 : ¬ x.f0 = 2) : mgS acc x = acc ++ [x] := by unfold mgS; rw [if_neg k2]
theorem mgS_e {acc : List S34} {x : S34} (k2 : x.f0 = 2) (e7 : x.f7.toList = ([] : List UInt8)) : mgS acc x = acc := by unfold mgS; rw [if_pos k2, if_pos e7]
theorem mgS_0 {acc : List S34} {x : S34} (k2 : x.f0 = 2) (e7 : ¬ x.f7.toList = ([] : List UInt8)) (p : ¬ 0 < acc.length) : mgS acc x = acc ++ [x] := by unfold mgS; rw [if_pos k2, if_neg e7, dif_neg p]
theorem mgS_n {acc : List S34} {x : S34} (k2 : x.f0 = 2) (e7 : ¬ x.f7.toList = ([] : List UInt8)) (p : 0 < acc.length) (k3 : ¬ (acc[acc.length - 1]'(by omega)).f0 = 2) : mgS acc x = acc ++ [x] := by unfold mgS; rw [if_pos k2, if_neg e7, dif_pos p, if_neg k3]
theorem mgS_g {acc : List S34} {x : S34} (k2 : x.f0 = 2) (e7 : ¬ x.f7.toList = ([] : List UInt8)) (p : 0 < acc.length) (k3 : (acc[acc.length - 1]'(by omega)).f0 = 2) : mgS acc x = acc.set (acc.length - 1) (glue (acc[acc.length - 1]'(by omega)) x) := by unfold mgS; rw [if_pos k2, if_neg e7, dif_pos p, if_pos k3]
theorem merge_same (l : List S34) (hl : l.length ≤ 1048576) (hv : ∀ x ∈ l, vNode x ≤ 1048576) (d : Nat) : ∀ (i : Nat) (acc : List S34), i ≤ l.length → l.length - i = d → acc.length ≤ i → (∀ y ∈ acc, tS y + sumOf tS (l.drop i) ≤ 1048576) → sumOf tS (l.drop i) ≤ 1048576 →
  ∃ r, Ev (fun k => spec_Merge.l0 k l acc (i : Int)) r ∧ Ev (fun k => impl_Merge.l0 k acc l (l.length : Int) (i : Int)) r ∧ (r.length : Int) + sumOf vNode r ≤ (acc.length : Int) + sumOf vNode acc + (((l.drop i).length : Int) + sumOf vNode (l.drop i)) ∧ r = (l.drop i).foldl mgS acc := by
 induction d with
 | zero =>
  intro i acc hi hd ha ht ht2
  have e : i = l.length := by omega
  subst e
  have hn := sumOf_nonneg vNode_n (l.drop l.length)
  refine ⟨acc, Ev.step (fun k => ?_) (Ev.now acc), Ev.step (fun k => ?_) (Ev.now acc), by omega, by rw [List.drop_length]; rfl⟩
  ·simp only [spec_Merge.l0]
   rw [if_neg (by omega)]
  ·simp only [impl_Merge.l0]
   rw [if_neg (by omega)]
 | succ d ih =>
  intro i acc hi hd ha ht ht2
  have hlt : i < l.length := by omega
  have hm := List.getElem_mem hlt
  have hvx := hv _ hm
  have hdr := List.drop_eq_getElem_cons hlt
  have hsp := l5Copy_f l[i] hvx
  have him := cloneNode_f l[i] hvx
  have hrd := rd_INode l i hlt
  rw [hdr] at ht ht2 ⊢
  rw [sumOf_cons] at ht2 ⊢
  rw [List.length_cons]
  simp only [sumOf_cons] at ht
  have hn1 := vNode_n l[i]
  have hn2 := tS_nonneg l[i]
  have hn3 := sumOf_nonneg tS_nonneg (l.drop (i + 1))
  have c0 : (0 : Int) ≤ (i : Int) := by omega
  have c1 : (i : Int) < (l.length : Int) := by omega
  have ca : acc.length < 977343669134 := by omega
  have wi : wrap64 ((i : Int) + 1) = ((i + 1 : Nat) : Int) := by rw [w64 (by omega) (by omega)]; omega
  have i1 : i + 1 ≤ l.length := by omega
  have i2 : l.length - (i + 1) = d := by omega
  have ia : acc.length ≤ i + 1 := by omega
  -- one more
  have more : ∃ r, Ev (fun k => spec_Merge.l0 k l (acc ++ [l[i]]) ((i + 1 : Nat) : Int)) r ∧ Ev (fun k => impl_Merge.l0 k (acc ++ [l[i]]) l (l.length : Int) ((i + 1 : Nat) : Int)) r ∧ (r.length : Int) + sumOf vNode r ≤ (acc.length : Int) + sumOf vNode acc + ((((l.drop (i + 1)).length + 1 : Nat) : Int) + (vNode l[i] + sumOf vNode (l.drop (i + 1)))) ∧ r = (l.drop (i + 1)).foldl mgS (acc ++ [l[i]]) := by
   obtain ⟨r, r1, r2, r3, r4⟩ := ih (i + 1) (acc ++ [l[i]]) i1 i2 (by rw [List.length_append, List.length_singleton]; omega) (fun y hy => by
    rcases List.mem_append.1 hy with h | h
    ·have := ht y h; omega
    ·rw [List.mem_singleton.1 h]; omega) (by omega)
   rw [List.length_append, List.length_singleton, sumOf_append, sumOf_cons, sumOf_nil] at r3
   exact ⟨r, r1, r2, by omega, r4⟩
  obtain ⟨ra, ra1, ra2, ra3, ra4⟩ := more
  have sA : Ev (fun k => (spec_l5Copy.f k l[i].f0 l[i].f1 l[i].f2 l[i].f3 l[i].f4 l[i].f5 l[i].f6 l[i].f7).bind fun b => if acc.length < 977343669134 then spec_Merge.l0 k l (acc ++ [(⟨b.1, b.2.1, b.2.2.1, b.2.2.2.1, b.2.2.2.2.1, b.2.2.2.2.2.1, b.2.2.2.2.2.2.1, b.2.2.2.2.2.2.2⟩ : S34)]) ((i + 1 : Nat) : Int) else none) ra := by
   refine Ev.bind hsp ?_
   exact Ev.congr (fun k => by rw [if_pos ca]; exact congrArg (fun z => spec_Merge.l0 k l (acc ++ [z]) ((i + 1 : Nat) : Int)) (nodeEta _)) ra1
  have iA : Ev (fun k => (impl_cloneNode.f k l[i].f0 l[i].f1 l[i].f2 l[i].f3 l[i].f4 l[i].f5 l[i].f6 l[i].f7).bind fun b => if acc.length < 977343669134 then impl_Merge.l0 k (acc ++ [(⟨b.1, b.2.1, b.2.2.1, b.2.2.2.1, b.2.2.2.2.1, b.2.2.2.2.2.1, b.2.2.2.2.2.2.1, b.2.2.2.2.2.2.2⟩ : S34)]) l (l.length : Int) ((i + 1 : Nat) : Int) else none) ra := by
   refine Ev.bind him ?_
   exact Ev.congr (fun k => by rw [if_pos ca]; exact congrArg (fun z => impl_Merge.l0 k (acc ++ [z]) l (l.length : Int) ((i + 1 : Nat) : Int)) (nodeEta _)) ra2
  by_cases k2 : l[i].f0 = 2
  ·by_cases e7 : l[i].f7.toList = ([] : List UInt8)
   ·-- an empty text
    obtain ⟨r, r1, r2, r3, r4⟩ := ih (i + 1) acc i1 i2 ia (fun y hy => by have := ht y hy; omega) (by omega)
    have b7 : (l[i].f7.toList == ([] : List UInt8)) = true := by rw [e7]; rfl
    refine ⟨r, Ev.step (fun k => ?_) r1, Ev.step (f := fun k => impl_Merge.j1 k acc (acc.length : Int) l (l.length : Int) (i : Int) true l[i].f0 l[i].f1 l[i].f2 l[i].f3 l[i].f4 l[i].f5 l[i].f6 l[i].f7) (fun k => ?_) (Ev.step (fun k => ?_) r2), by omega, by rw [List.foldl_cons, mgS_e k2 e7]; exact r4⟩
    ·simp only [spec_Merge.l0]
     rw [if_pos c1, if_pos c0, hrd, if_pos k2, if_pos e7, wi]
    ·simp only [impl_Merge.l0]
     rw [if_pos c1, if_pos c0, if_pos c1, hrd, if_pos k2, b7]
    ·simp only [impl_Merge.j1]
     rw [if_pos trivial, wi]
   ·have b7 : (l[i].f7.toList == ([] : List UInt8)) = false := by simpa using e7
    have imp : ∀ r, Ev (fun k => impl_Merge.j1 k acc (acc.length : Int) l (l.length : Int) (i : Int) false l[i].f0 l[i].f1 l[i].f2 l[i].f3 l[i].f4 l[i].f5 l[i].f6 l[i].f7) r → Ev (fun k => impl_Merge.l0 k acc l (l.length : Int) (i : Int)) r := fun r hr => by
     refine Ev.step (fun k => ?_) hr
     simp only [impl_Merge.l0]
     rw [if_pos c1, if_pos c0, if_pos c1, hrd, if_pos k2, b7]
    by_cases p0 : (acc.length : Int) > 0
    ·have hj : acc.length - 1 < acc.length := by omega
     have wj : wrap64 ((acc.length : Int) - 1) = ((acc.length - 1 : Nat) : Int) := by rw [w64 (by omega) (by omega)]; omega
     have j0 : (0 : Int) ≤ ((acc.length - 1 : Nat) : Int) := by omega
     have j1 : ((acc.length - 1 : Nat) : Int) < (acc.length : Int) := by omega
     have hrj := rd_INode acc (acc.length - 1) hj
     by_cases k3 : acc[acc.length - 1].f0 = 2
     ·-- to the last text
      have hb := ht _ (List.getElem_mem hj)
      have hsz : acc[acc.length - 1].f7.size + l[i].f7.size ≤ 9223372036854775807 := by
       clear wi wj
       have g1 : tS acc[acc.length - 1] = (acc[acc.length - 1].f7.size : Int) := rfl
       have g2 : tS l[i] = (l[i].f7.size : Int) := rfl
       omega
      obtain ⟨r, r1, r2, r3, r4⟩ := ih (i + 1) (acc.set (acc.length - 1) ⟨acc[acc.length - 1].f0, acc[acc.length - 1].f1, acc[acc.length - 1].f2, acc[acc.length - 1].f3, acc[acc.length - 1].f4, acc[acc.length - 1].f5, acc[acc.length - 1].f6, acc[acc.length - 1].f7 ++ l[i].f7⟩) i1 i2 (by rw [List.length_set]; exact ia) (fun y hy => by
       rcases List.mem_or_eq_of_mem_set hy with h | h
       ·have := ht y h; omega
       ·rw [h]
        show ((acc[acc.length - 1].f7 ++ l[i].f7).size : Int) + _ ≤ _
        rw [ByteArray.size_append]
        have h1 : tS acc[acc.length - 1] = (acc[acc.length - 1].f7.size : Int) := rfl
        have h2 : tS l[i] = (l[i].f7.size : Int) := rfl
        omega) (by omega)
      rw [List.length_set, sumOf_set vNode acc _ hj _ (by rw [vNode_eq, vNode_eq])] at r3
      refine ⟨r, Ev.step (fun k => ?_) r1, imp r (Ev.step (fun k => ?_) r2), by omega, by rw [List.foldl_cons, mgS_g k2 e7 (by omega) k3]; exact r4⟩
      ·simp only [spec_Merge.l0]
       rw [if_pos c1, if_pos c0, hrd, if_pos k2, if_neg e7, if_pos p0, wj, if_pos j0, if_pos j1, hrj, if_pos k3, if_pos hsz, wi, Int.toNat_natCast]
      ·simp only [impl_Merge.j1]
       rw [if_neg (by simp), if_pos k2, if_pos p0, wj, if_pos j0, if_pos j1, hrj, if_pos k3, if_pos hsz, wi, Int.toNat_natCast]
     ·refine ⟨ra, Ev.step (fun k => ?_) sA, imp ra (Ev.step (fun k => ?_) iA), ra3, by rw [List.foldl_cons, mgS_n k2 e7 (by omega) k3]; exact ra4⟩
      ·simp only [spec_Merge.l0]
       rw [if_pos c1, if_pos c0, hrd, if_pos k2, if_neg e7, if_pos p0, wj, if_pos j0, if_pos j1, hrj, if_neg k3, wi]
      ·simp only [impl_Merge.j1]
       rw [if_neg (by simp), if_pos k2, if_pos p0, wj, if_pos j0, if_pos j1, hrj, if_neg k3, wi]
    ·refine ⟨ra, Ev.step (fun k => ?_) sA, imp ra (Ev.step (fun k => ?_) iA), ra3, by rw [List.foldl_cons, mgS_0 k2 e7 (by omega)]; exact ra4⟩
     ·simp only [spec_Merge.l0]
      rw [if_pos c1, if_pos c0, hrd, if_pos k2, if_neg e7, if_neg p0, wi]
     ·simp only [impl_Merge.j1]
      rw [if_neg (by simp), if_pos k2, if_neg p0, wi]
  ·refine ⟨ra, Ev.step (fun k => ?_) sA, Ev.step (f := fun k => impl_Merge.j1 k acc (acc.length : Int) l (l.length : Int) (i : Int) false l[i].f0 l[i].f1 l[i].f2 l[i].f3 l[i].f4 l[i].f5 l[i].f6 l[i].f7) (fun k => ?_) (Ev.step (fun k => ?_) iA), ra3, by rw [List.foldl_cons, mgS_t k2]; exact ra4⟩
   ·simp only [spec_Merge.l0]
    rw [if_pos c1, if_pos c0, hrd, if_neg k2, wi]
   ·simp only [impl_Merge.l0]
    rw [if_pos c1, if_pos c0, if_pos c1, hrd, if_neg k2]
   ·simp only [impl_Merge.j1]
    rw [if_neg (by simp), if_neg k2, wi]
theorem merge_f (l : List S34) (hl : (l.length : Int) + sumOf vNode l ≤ 1048576) (ht : sumOf tS l ≤ 1048576) : Ev (fun k => spec_Merge.f k l) (l.foldl mgS []) ∧ Ev (fun k => impl_Merge.f k l) (l.foldl mgS []) ∧ ((l.foldl mgS []).length : Int) + sumOf vNode (l.foldl mgS []) ≤ (l.length : Int) + sumOf vNode l := by
 have hs := sumOf_nonneg vNode_n l
 obtain ⟨r, r1, r2, r3, r4⟩ := merge_same l (by omega) (fun x hx => by have := sumOf_mem vNode_n hx; omega) l.length 0 [] (by omega) (by omega) (by simp) (fun y hy => by simp at hy) (by simpa using ht)
 rw [List.drop_zero] at r3 r4
 rw [List.length_nil, sumOf_nil] at r3
 subst r4
 exact ⟨Ev.congr (fun k => by simp [spec_Merge.f]) r1, Ev.congr (fun k => by simp [impl_Merge.f]) r2, by omega⟩
def allEq {α : Type} (ne : α → α → Bool) : List α → List α → Bool
 | x :: xs, y :: ys => !ne x y && allEq ne xs ys
 | _, _ => true
theorem walk_eq {α : Type} {ne : α → α → Bool} {l m : List α} {G : Nat → Int → Option Bool} {E : Nat → Option Bool} {re : Bool} (hlen : l.length = m.length)
  (hs : ∀ k (i : Nat) (h : i < l.length) (h' : i < m.length), G (k + 1) (i : Int) = if ne l[i] m[i] = true then some false else G k ((i + 1 : Nat) : Int))
  (he : ∀ k, G (k + 1) (l.length : Int) = E k) (hE : Ev E re) (d : Nat) : ∀ i : Nat, i ≤ l.length → l.length - i = d → Ev (fun k => G k (i : Int)) (if allEq ne (l.drop i) (m.drop i) = true then re else false) := by
 induction d with
 | zero =>
  intro i hi hd
  have e : i = l.length := by omega
  subst e
  rw [List.drop_length, hlen, List.drop_length, ← hlen]
  exact Ev.step he hE
 | succ d ih =>
  intro i hi hd
  have hlt : i < l.length := by omega
  have hlt' : i < m.length := by omega
  have e1 : allEq ne (l.drop i) (m.drop i) = (!ne l[i] m[i] && allEq ne (l.drop (i + 1)) (m.drop (i + 1))) := by
   rw [List.drop_eq_getElem_cons hlt, List.drop_eq_getElem_cons hlt']
   rfl
  by_cases c : ne l[i] m[i] = true
  ·have e2 : allEq ne (l.drop i) (m.drop i) = false := by
    rw [e1, c]
    rfl
   rw [e2, if_neg (by simp)]
   exact Ev.step (fun k => hs k i hlt hlt') (Ev.congr (fun k => by rw [if_pos c]) (Ev.now _))
  ·have c' : ne l[i] m[i] = false := by simpa using c
   have e2 : allEq ne (l.drop i) (m.drop i) = allEq ne (l.drop (i + 1)) (m.drop (i + 1)) := by
    rw [e1, c']
    rfl
   rw [e2]
   exact Ev.step (fun k => hs k i hlt hlt') (Ev.congr (fun k => by rw [if_neg c]) (ih (i + 1) (by omega) (by omega)))
theorem rd_IAttr3 (l : List S90) (i : Nat) (h : i < l.length) : rd_T90 l (i : Int) = l[i] := by simp [rd_T90, List.getD_eq_getElem?_getD, List.getElem?_eq_getElem h]
def neD (a b : S88) : Bool := (!((a.f0.toList) == (b.f0.toList)) || (!((a.f1.toList) == (b.f1.toList))))
def neA (a b : S90) : Bool := (!((a.f0.toList) == (b.f0.toList)) || (!((a.f1.toList) == (b.f1.toList)) || (!((a.f2.toList) == (b.f2.toList)) || (!((a.f3.toList) == (b.f3.toList))))))
theorem implDecls_f (l m : List S88) (hl : l.length ≤ 1048576) (hlen : l.length = m.length) : Ev (fun k => impl_Decl_87.f k l m) (allEq neD l m) := by
 have h := walk_eq (ne := neD) (G := fun k i => impl_Decl_87.l0 k l m (l.length : Int) i) (E := fun _ => some true) hlen (fun k i h h' => by
   simp only [impl_Decl_87.l0]
   rw [if_pos (by omega), if_pos (by omega), if_pos (by omega), if_pos (by omega), rd_IDecl l i h, rd_IDecl m i h', w64 (by omega) (by omega)]
   rfl) (fun k => by simp only [impl_Decl_87.l0]; rw [if_neg (by omega)]) (Ev.now true) l.length 0 (by omega) (by omega)
 refine Ev.congr (fun k => by unfold impl_Decl_87.f; rw [if_pos (by omega)]) ?_
 simpa using h
theorem implAttrs_f (l m : List S90) (hl : l.length ≤ 1048576) (hlen : l.length = m.length) : Ev (fun k => impl_Attr_88.f k l m) (allEq neA l m) := by
 have h := walk_eq (ne := neA) (G := fun k i => impl_Attr_88.l0 k l m (l.length : Int) i) (E := fun _ => some true) hlen (fun k i h h' => by
   simp only [impl_Attr_88.l0]
   rw [if_pos (by omega), if_pos (by omega), if_pos (by omega), if_pos (by omega), rd_IAttr3 l i h, rd_IAttr3 m i h', w64 (by omega) (by omega)]
   rfl) (fun k => by simp only [impl_Attr_88.l0]; rw [if_neg (by omega)]) (Ev.now true) l.length 0 (by omega) (by omega)
 refine Ev.congr (fun k => by unfold impl_Attr_88.f; rw [if_pos (by omega)]) ?_
 simpa using h
theorem size0 (s : ByteArray) : s.toList = [] ↔ s.size = 0 := by
 rw [Go.Lib.toList_data, Go.Lib.size_eq, List.length_eq_zero_iff]
theorem emp_size (s : ByteArray) (h : s.toList = ([] : List UInt8)) : s = ByteArray.empty := ByteArray.ext (by
 have h2 : s.data.size = 0 := (size0 s).1 h
 rw [Array.eq_empty_of_size_eq_zero h2]
 rfl)
theorem ne_app (a b : ByteArray) (h : ¬ b.toList = ([] : List UInt8)) : ¬ (a ++ b).toList = ([] : List UInt8) := fun e => h (by
 have h2 := (size0 _).1 e
 rw [ByteArray.size_append] at h2
 exact (size0 b).2 (by omega))
/-- What a node has of text. -/
def pc (x : S34) : ByteArray := if x.f0 = 2 then x.f7 else (⟨#[124]⟩ : ByteArray)
def tF (s : ByteArray) (x : S34) : ByteArray := s ++ pc x
def tB (l : List S34) : ByteArray := l.foldl tF ByteArray.empty
theorem tB_snoc (l : List S34) (x : S34) : tB (l ++ [x]) = tB l ++ pc x := by unfold tB; rw [List.foldl_append]; rfl
theorem tB_mg (acc : List S34) (x : S34) : tB (mgS acc x) = tB acc ++ pc x := by
 by_cases k2 : x.f0 = 2
 ·by_cases e7 : x.f7.toList = ([] : List UInt8)
  ·rw [mgS_e k2 e7]
   unfold pc
   rw [if_pos k2, emp_size _ e7, ByteArray.append_empty]
  ·by_cases p : 0 < acc.length
   ·by_cases k3 : (acc[acc.length - 1]'(by omega)).f0 = 2
    ·rw [mgS_g k2 e7 p k3]
     rcases List.eq_nil_or_concat acc with h | ⟨i, a, h⟩
     ·subst h
      exact absurd p (by simp)
     ·rw [List.concat_eq_append] at h
      subst h
      have ea : (i ++ [a])[(i ++ [a]).length - 1]'(by omega) = a := by simp
      rw [ea] at k3 ⊢
      have es : (i ++ [a]).set ((i ++ [a]).length - 1) (glue a x) = i ++ [glue a x] := by simp
      rw [es, tB_snoc, tB_snoc]
      unfold pc
      rw [if_pos (show (glue a x).f0 = 2 from k3), if_pos k3, if_pos k2, ByteArray.append_assoc]
      rfl
    ·rw [mgS_n k2 e7 p k3, tB_snoc]
   ·rw [mgS_0 k2 e7 p, tB_snoc]
 ·rw [mgS_t k2, tB_snoc]
theorem tB_fold (l : List S34) : ∀ acc, tB (l.foldl mgS acc) = l.foldl tF (tB acc) := by
 induction l with
 | nil => intro acc; rfl
 | cons x l ih => intro acc; rw [List.foldl_cons, List.foldl_cons, ih, tB_mg]; rfl
theorem tF_size (l : List S34) : ∀ s : ByteArray, s.size ≤ (l.foldl tF s).size ∧ ((l.foldl tF s).size : Int) ≤ s.size + ((l.length : Int) + sumOf tS l) := by
 induction l with
 | nil => intro s; rw [List.foldl_nil, sumOf_nil]; exact ⟨Nat.le_refl _, by simp⟩
 | cons x l ih =>
  intro s
  obtain ⟨a, b⟩ := ih (tF s x)
  rw [List.foldl_cons, sumOf_cons, List.length_cons]
  have hz : (tF s x).size = s.size + (pc x).size := ByteArray.size_append
  have hp : ((pc x).size : Int) ≤ 1 + tS x := by
   unfold pc tS
   by_cases k2 : x.f0 = 2
   ·rw [if_pos k2]; omega
   ·rw [if_neg k2]; have : ((⟨#[124]⟩ : ByteArray).size : Int) = 1 := rfl; omega
  exact ⟨by omega, by omega⟩
theorem tB_take (l : List S34) (i : Nat) : (tB (l.take i)).size ≤ (tB l).size := by
 have h : tB l = (l.drop i).foldl tF (tB (l.take i)) := by unfold tB; rw [← List.foldl_append, List.take_append_drop]
 rw [h]
 exact (tF_size _ _).1
/-- No text is empty, none stands beside another one. -/
def Good (m : List S34) : Prop := ∀ (j : Nat) (x : S34), m[j]? = some x → x.f0 = 2 → ¬ x.f7.toList = ([] : List UInt8) ∧ ∀ y, 0 < j → m[j - 1]? = some y → ¬ y.f0 = 2
theorem good_snoc {m : List S34} {x : S34} (h : Good m) (hx : x.f0 = 2 → ¬ x.f7.toList = ([] : List UInt8) ∧ ∀ y, 0 < m.length → m[m.length - 1]? = some y → ¬ y.f0 = 2) : Good (m ++ [x]) := by
 intro j z hj hz
 rw [List.getElem?_append] at hj
 by_cases hlt : j < m.length
 ·rw [if_pos hlt] at hj
  obtain ⟨a, b⟩ := h j z hj hz
  refine ⟨a, fun y h0 hy => b y h0 ?_⟩
  rw [List.getElem?_append, if_pos (by omega)] at hy
  exact hy
 ·rw [if_neg hlt] at hj
  have e : j = m.length := by
   by_cases e : j - m.length = 0
   ·omega
   ·rw [List.getElem?_eq_none (by simp; omega)] at hj
    cases hj
  subst e
  rw [Nat.sub_self] at hj
  cases hj
  obtain ⟨a, b⟩ := hx hz
  refine ⟨a, fun y h0 hy => b y h0 ?_⟩
  rw [List.getElem?_append, if_pos (by omega)] at hy
  exact hy
theorem good_mg {acc : List S34} {x : S34} (h : Good acc) : Good (mgS acc x) := by
 by_cases k2 : x.f0 = 2
 ·by_cases e7 : x.f7.toList = ([] : List UInt8)
  ·rw [mgS_e k2 e7]
   exact h
  ·by_cases p : 0 < acc.length
   ·by_cases k3 : (acc[acc.length - 1]'(by omega)).f0 = 2
    ·rw [mgS_g k2 e7 p k3]
     intro j z hj hz
     rw [List.getElem?_set] at hj
     by_cases e : acc.length - 1 = j
     ·rw [if_pos e, if_pos (by omega)] at hj
      injection hj with hj
      subst hj
      obtain ⟨a, b⟩ := h (acc.length - 1) _ (List.getElem?_eq_getElem (by omega)) k3
      refine ⟨ne_app _ _ e7, fun y h0 hy => ?_⟩
      rw [List.getElem?_set, if_neg (by omega)] at hy
      subst e
      exact b y h0 hy
     ·rw [if_neg e] at hj
      obtain ⟨a, b⟩ := h j z hj hz
      have hlt : j < acc.length := by
       by_cases hlt : j < acc.length
       ·exact hlt
       ·rw [List.getElem?_eq_none (by omega)] at hj
        cases hj
      refine ⟨a, fun y h0 hy => ?_⟩
      rw [List.getElem?_set, if_neg (by omega)] at hy
      exact b y h0 hy
    ·rw [mgS_n k2 e7 p k3]
     refine good_snoc h (fun _ => ⟨e7, fun y h0 hy => ?_⟩)
     rw [List.getElem?_eq_getElem (by omega)] at hy
     injection hy with hy
     rw [← hy]
     exact k3
   ·rw [mgS_0 k2 e7 p]
    exact good_snoc h (fun _ => ⟨e7, fun y h0 _ => absurd h0 p⟩)
 ·rw [mgS_t k2]
  exact good_snoc h (fun e => absurd e k2)
theorem good_fold (l : List S34) : ∀ acc, Good acc → Good (l.foldl mgS acc) := by
 induction l with
 | nil => intro acc h; exact h
 | cons x l ih => intro acc h; exact ih _ (good_mg h)
theorem mg_id (suf : List S34) : ∀ pre, Good (pre ++ suf) → suf.foldl mgS pre = pre ++ suf := by
 induction suf with
 | nil => intro pre _; rw [List.append_nil]; rfl
 | cons x s ih =>
  intro pre h
  have e : mgS pre x = pre ++ [x] := by
   by_cases k2 : x.f0 = 2
   ·obtain ⟨a, b⟩ := h pre.length x (by simp) k2
    by_cases p : 0 < pre.length
    ·exact mgS_n k2 a p (b _ p (by rw [List.getElem?_append, if_pos (by omega), List.getElem?_eq_getElem (by omega)]))
    ·exact mgS_0 k2 a p
   ·exact mgS_t k2
  rw [List.foldl_cons, e, ih (pre ++ [x]) (by simpa using h)]
  simp
theorem good_nil : Good [] := fun j x h => by simp at h
theorem tS_all (l : List S34) : ∀ acc, sumOf tS (l.foldl mgS acc) ≤ sumOf tS acc + sumOf tS l := by
 induction l with
 | nil => intro acc; rw [sumOf_nil]; show sumOf tS acc ≤ _; omega
 | cons x l ih =>
  intro acc
  rw [List.foldl_cons, sumOf_cons]
  have h := ih (mgS acc x)
  have hx := tS_nonneg x
  have one : sumOf tS (acc ++ [x]) = sumOf tS acc + tS x := by rw [sumOf_append, sumOf_cons, sumOf_nil]; omega
  have hm : sumOf tS (mgS acc x) ≤ sumOf tS acc + tS x := by
   by_cases k2 : x.f0 = 2
   ·by_cases e7 : x.f7.toList = ([] : List UInt8)
    ·rw [mgS_e k2 e7]; omega
    ·by_cases p : 0 < acc.length
     ·by_cases k3 : (acc[acc.length - 1]'(by omega)).f0 = 2
      ·rw [mgS_g k2 e7 p k3]
       rcases List.eq_nil_or_concat acc with h | ⟨i, a, h⟩
       ·subst h
        exact absurd p (by simp)
       ·rw [List.concat_eq_append] at h
        subst h
        have ea : (i ++ [a])[(i ++ [a]).length - 1]'(by omega) = a := by simp
        have es : (i ++ [a]).set ((i ++ [a]).length - 1) (glue a x) = i ++ [glue a x] := by simp
        rw [ea, es, sumOf_append, sumOf_append, sumOf_cons, sumOf_cons, sumOf_nil]
        have : tS (glue a x) = tS a + tS x := by
         unfold tS glue
         simp only [ByteArray.size_append]
         omega
        omega
      ·rw [mgS_n k2 e7 p k3]; omega
     ·rw [mgS_0 k2 e7 p]; omega
   ·rw [mgS_t k2]; omega
  omega
theorem allEq_refl {α : Type} {ne : α → α → Bool} (h : ∀ x, ne x x = false) (l : List α) : allEq ne l l = true := by
 induction l with
 | nil => rfl
 | cons x l ih => show (!ne x x && allEq ne l l) = true; rw [h, ih]; rfl
theorem all_refl (F : Nat → S34 → S34 → Option Bool) (l : List S34) (h : ∀ x ∈ l, Ev (fun k => F k x x) true) : Ev (fun k => impl_Node.all (F k) l l) true := by
 induction l with
 | nil => exact Ev.now _
 | cons x l ih => exact Ev.congr (fun k => by simp only [impl_Node.all]; rfl) (Ev.bind (h x (List.mem_cons_self ..)) (Ev.congr (fun k => by rw [if_pos rfl]) (ih (fun y hy => h y (List.mem_cons_of_mem _ hy)))))
theorem same_refl (x : S34) : vNode x ≤ 1048576 → Ev (fun k => impl_SameNode.f k x.f0 x.f1 x.f2 x.f3 x.f4 x.f5 x.f6 x.f7 x.f0 x.f1 x.f2 x.f3 x.f4 x.f5 x.f6 x.f7) true := by
 induction x using indI with
 | h x ih =>
  intro hv
  obtain ⟨b4, b5, b6, _, bk⟩ := vNode_bounds x
  have hD := implDecls_f x.f4 x.f4 (by omega) rfl
  have hA := implAttrs_f x.f5 x.f5 (by omega) rfl
  rw [allEq_refl (fun d => by simp [neD])] at hD
  rw [allEq_refl (fun d => by simp [neA])] at hA
  have hT : Ev (fun k => impl_sameAlone.f k x.f0 x.f1 x.f2 x.f3 x.f4 x.f5 x.f6 x.f7 x.f0 x.f1 x.f2 x.f3 x.f4 x.f5 x.f6 x.f7) true := by
   refine Ev.congr (fun k => by unfold impl_sameAlone.f; rw [if_pos rfl, if_pos rfl, if_pos rfl, if_pos rfl, if_pos rfl]) (Ev.bind hD ?_)
   exact Ev.congr (fun k => by rw [if_pos rfl]) (Ev.bind hA (Ev.now _))
  have hk := all_refl (fun k x y => impl_SameNode.f k x.f0 x.f1 x.f2 x.f3 x.f4 x.f5 x.f6 x.f7 y.f0 y.f1 y.f2 y.f3 y.f4 y.f5 y.f6 y.f7) x.f6 (fun y hy => ih y hy (by have := bk y hy; omega))
  exact Ev.step (fun k => by simp only [impl_SameNode.f]; rfl) (Ev.bind hT (Ev.congr (fun k => by rw [if_pos rfl]; unfold impl_Node.f; rw [if_pos rfl]) hk))
theorem sameList_ev (m : List S34) (hm : m.length ≤ 1048576) (hv : ∀ x ∈ m, vNode x ≤ 1048576) : Ev (fun k => laws_sameList.f k m m) true := by
 have h := all_all (n := m.length) (G := fun k i => laws_sameList.l0 k m m i) (H := fun k i => impl_SameNode.f k (rd_T34 m (i : Int)).f0 (rd_T34 m (i : Int)).f1 (rd_T34 m (i : Int)).f2 (rd_T34 m (i : Int)).f3 (rd_T34 m (i : Int)).f4 (rd_T34 m (i : Int)).f5 (rd_T34 m (i : Int)).f6 (rd_T34 m (i : Int)).f7 (rd_T34 m (i : Int)).f0 (rd_T34 m (i : Int)).f1 (rd_T34 m (i : Int)).f2 (rd_T34 m (i : Int)).f3 (rd_T34 m (i : Int)).f4 (rd_T34 m (i : Int)).f5 (rd_T34 m (i : Int)).f6 (rd_T34 m (i : Int)).f7)
  (fun k i hi => by simp only [laws_sameList.l0]; rw [if_pos (by omega), if_pos (by omega), if_pos (by omega), w64 (by omega) (by omega)])
  (fun i hi => by rw [rd_INode m i hi]; exact same_refl _ (hv _ (List.getElem_mem hi)))
  (fun k => by simp only [laws_sameList.l0]; rw [if_neg (by omega)])
 exact Ev.congr (fun k => by unfold laws_sameList.f; rw [if_pos rfl]) h
theorem l1_ev (l m : List S34) (s : ByteArray) (hm : m.length ≤ 1048576) (hG : Good m) (hs : s = tB m) (hz : (tB m).size ≤ 9223372036854775807)
  (hE : Ev (fun k => (impl_Merge.f k m).bind fun t => (laws_sameList.f k t m).bind fun u => if u = true then (spec_Merge.f k l).bind fun v => (laws_sameList.f k m v).bind fun w => some w else some false) true) (d : Nat) :
  ∀ i : Nat, i ≤ m.length → m.length - i = d → Ev (fun k => laws_FnMerges.l1 k l m s (tB (m.take i)) (i : Int)) true := by
 induction d with
 | zero =>
  intro i hi hd
  have e : i = m.length := by omega
  subst e
  refine Ev.step (fun k => ?_) hE
  simp only [laws_FnMerges.l1]
  rw [if_neg (by omega), List.take_length, ← hs, if_pos rfl]
 | succ d ih =>
  intro i hi hd
  have hlt : i < m.length := by omega
  have c1 : (i : Int) < (m.length : Int) := by omega
  have c0 : (0 : Int) ≤ (i : Int) := by omega
  have hrd := rd_INode m i hlt
  have wi : wrap64 ((i : Int) + 1) = ((i + 1 : Nat) : Int) := by rw [w64 (by omega) (by omega)]; omega
  have tk : tB (m.take (i + 1)) = tB (m.take i) ++ pc m[i] := by rw [List.take_succ_eq_append_getElem hlt, tB_snoc]
  have hsz : (tB (m.take i) ++ pc m[i]).size ≤ 9223372036854775807 := by rw [← tk]; exact Nat.le_trans (tB_take m (i + 1)) hz
  rw [ByteArray.size_append] at hsz
  have hi1 := ih (i + 1) (by omega) (by omega)
  rw [tk] at hi1
  by_cases k2 : m[i].f0 = 2
  ·have hp : pc m[i] = m[i].f7 := if_pos k2
   rw [hp] at hsz hi1
   obtain ⟨g1, g2⟩ := hG i m[i] (List.getElem?_eq_getElem hlt) k2
   by_cases i0 : 0 < i
   ·have w1 : wrap64 ((i : Int) - 1) = ((i - 1 : Nat) : Int) := by rw [w64 (by omega) (by omega)]; omega
    have hrd' := rd_INode m (i - 1) (by omega)
    have hn : ¬ (m[i - 1]'(by omega)).f0 = 2 := g2 _ i0 (List.getElem?_eq_getElem (by omega))
    have d0 : (0 : Int) ≤ ((i - 1 : Nat) : Int) := by omega
    have d1 : ((i - 1 : Nat) : Int) < (m.length : Int) := by omega
    refine Ev.step (fun k => ?_) hi1
    simp only [laws_FnMerges.l1]
    rw [if_pos c1, if_pos c0, hrd, if_pos k2, if_pos hsz, if_neg g1, if_pos (by omega), w1, if_pos d0, if_pos d1, hrd', if_neg hn, wi]
   ·refine Ev.step (fun k => ?_) hi1
    simp only [laws_FnMerges.l1]
    rw [if_pos c1, if_pos c0, hrd, if_pos k2, if_pos hsz, if_neg g1, if_neg (by omega), wi]
  ·have hp : pc m[i] = (⟨#[124]⟩ : ByteArray) := if_neg k2
   have h1 : (⟨#[124]⟩ : ByteArray).size = 1 := rfl
   rw [hp] at hsz hi1
   rw [h1] at hsz
   refine Ev.step (fun k => ?_) hi1
   simp only [laws_FnMerges.l1]
   rw [if_pos c1, if_pos c0, hrd, if_neg k2, if_pos hsz, wi]
theorem l0_ev (l m : List S34) (hl : l.length ≤ 1048576) (hz : (tB l).size ≤ 9223372036854775807) (hE : Ev (fun k => laws_FnMerges.l1 k l m (tB l) ByteArray.empty 0) true) (d : Nat) :
  ∀ i : Nat, i ≤ l.length → l.length - i = d → Ev (fun k => laws_FnMerges.l0 k l m (tB (l.take i)) ByteArray.empty (i : Int)) true := by
 induction d with
 | zero =>
  intro i hi hd
  have e : i = l.length := by omega
  subst e
  refine Ev.step (fun k => ?_) hE
  simp only [laws_FnMerges.l0]
  rw [if_neg (by omega), List.take_length]
 | succ d ih =>
  intro i hi hd
  have hlt : i < l.length := by omega
  have c1 : (i : Int) < (l.length : Int) := by omega
  have c0 : (0 : Int) ≤ (i : Int) := by omega
  have hrd := rd_INode l i hlt
  have wi : wrap64 ((i : Int) + 1) = ((i + 1 : Nat) : Int) := by rw [w64 (by omega) (by omega)]; omega
  have tk : tB (l.take (i + 1)) = tB (l.take i) ++ pc l[i] := by rw [List.take_succ_eq_append_getElem hlt, tB_snoc]
  have hsz : (tB (l.take i) ++ pc l[i]).size ≤ 9223372036854775807 := by rw [← tk]; exact Nat.le_trans (tB_take l (i + 1)) hz
  rw [ByteArray.size_append] at hsz
  have hi1 := ih (i + 1) (by omega) (by omega)
  rw [tk] at hi1
  refine Ev.step (fun k => ?_) hi1
  simp only [laws_FnMerges.l0]
  by_cases k2 : l[i].f0 = 2
  ·have hp : pc l[i] = l[i].f7 := if_pos k2
   rw [hp] at hsz ⊢
   rw [if_pos c1, if_pos c0, hrd, if_pos k2, if_pos hsz, wi]
  ·have hp : pc l[i] = (⟨#[124]⟩ : ByteArray) := if_neg k2
   have h1 : (⟨#[124]⟩ : ByteArray).size = 1 := rfl
   rw [hp] at hsz ⊢
   rw [h1] at hsz
   rw [if_pos c1, if_pos c0, hrd, if_neg k2, if_pos hsz, wi]
/-! ### what is drawn: the cursor (b, i, h): its place stays within, every draw comes to its end -/
theorem and255 (n : Int) : Go.bits .and .i64 n 255 = n % 256 := by
 have h63 : (BitVec.ofInt 64 255).toNat = 2 ^ 8 - 1 := by decide
 have key : (BitVec.ofInt 64 n &&& BitVec.ofInt 64 255).toNat = (n % ((2 ^ 64 : Nat) : Int)).toNat % 2 ^ 8 := by
  rw [BitVec.toNat_and, BitVec.toNat_ofInt, h63, Nat.and_two_pow_sub_one_eq_mod]
 show IntKind.i64.wrap ((BitVec.ofInt 64 n &&& BitVec.ofInt 64 255).toNat : Nat) = n % 256
 rw [key, IntKind.wrap_i64]
 omega
/-- The cursor's place is within. -/
def At (b : List Int) (i : Int) : Prop := b.length ≤ 1048576 ∧ 0 ≤ i ∧ i ≤ b.length
theorem l1New_l (b : List Int) (hb : b.length ≤ 1048576) (d : Nat) : ∀ (i : Nat) (h : Int), i ≤ b.length → b.length - i = d → ∃ h', Ev (fun k => spec_l1New.l0 k b h (i : Int)) (b, 0, h') := by
 induction d with
 | zero =>
  intro i h hi hd
  exact ⟨h, Ev.step (f := fun _ => some _) (fun k => by simp only [spec_l1New.l0]; rw [if_neg (by omega)]) (Ev.now _)⟩
 | succ d ih =>
  intro i h hi hd
  have w1 : wrap64 ((i : Int) + 1) = ((i + 1 : Nat) : Int) := by rw [w64 (by omega) (by omega)]; omega
  by_cases h4 : (i : Int) < 4000
  ·obtain ⟨h', hh⟩ := ih (i + 1) _ (by omega) (by omega)
   exact ⟨h', Ev.step (fun k => by simp only [spec_l1New.l0]; rw [if_pos (by omega), if_pos h4, if_pos (by omega), w1]) hh⟩
  ·exact ⟨h, Ev.step (f := fun _ => some _) (fun k => by simp only [spec_l1New.l0]; rw [if_pos (by omega), if_neg h4]) (Ev.now _)⟩
theorem l1New_f (b : List Int) (hb : b.length ≤ 1048576) : ∃ h, Ev (fun k => spec_l1New.f k b) (b, 0, h) := by
 obtain ⟨h, hh⟩ := l1New_l b hb b.length 0 _ (by omega) (by omega)
 exact ⟨h, hh⟩
theorem at0 (b : List Int) (hb : b.length ≤ 1048576) : At b 0 := ⟨hb, by omega, by omega⟩
theorem l1Byte_f (b : List Int) (i h : Int) (ha : At b i) : ∃ x i' h', spec_l1Byte.f b i h = some (x, i', h') ∧ 0 ≤ x ∧ x < 256 ∧ At b i' := by
 obtain ⟨hb, h0, h1⟩ := ha
 unfold spec_l1Byte.f
 by_cases hlt : i < (b.length : Int)
 ·rw [if_pos hlt, if_pos h0, w64 (i := i + 1) (by omega) (by omega)]
  refine ⟨_, _, _, rfl, ?_, ?_, hb, by omega, by omega⟩
  all_goals (rw [and255]; omega)
 ·rw [if_neg hlt]
  refine ⟨_, _, _, rfl, ?_, ?_, hb, h0, h1⟩
  all_goals (rw [and255]; omega)
theorem l1Below_f (b : List Int) (i h n : Int) (ha : At b i) (hn : 1 ≤ n) : ∃ x i' h', spec_l1Below.f b i h n = some (x, i', h') ∧ 0 ≤ x ∧ x < n ∧ At b i' := by
 unfold spec_l1Below.f
 rw [if_neg (by omega)]
 obtain ⟨x, i1, h1, e1, x0, x1, a1⟩ := l1Byte_f b i h ha
 by_cases hs : n ≤ 256
 ·rw [if_pos hs, e1, Option.bind_some, if_neg (by omega)]
  exact ⟨_, _, _, rfl, Int.tmod_nonneg n x0, Int.tmod_lt_of_pos x (by omega), a1⟩
 ·rw [if_neg hs, e1, Option.bind_some]
  obtain ⟨y, i2, h2, e2, y0, y1, a2⟩ := l1Byte_f b i1 h1 a1
  simp only
  rw [e2, Option.bind_some]
  obtain ⟨z, i3, h3, e3, z0, z1, a3⟩ := l1Byte_f b i2 h2 a2
  simp only
  rw [e3, Option.bind_some, if_neg (by omega)]
  refine ⟨_, _, _, rfl, Int.tmod_nonneg n ?_, Int.tmod_lt_of_pos _ (by omega), a3⟩
  rw [w64 (i := x * 65536) (by omega) (by omega), w64 (i := y * 256) (by omega) (by omega), w64 (i := x * 65536 + y * 256) (by omega) (by omega), w64 (i := x * 65536 + y * 256 + z) (by omega) (by omega)]
  omega
theorem l1Str_f (b : List Int) (i h : Int) (l : List ByteArray) (ha : At b i) (hl : 1 ≤ l.length) : ∃ x i' h', spec_l1Str.f b i h l = some (x, i', h') ∧ x ∈ l ∧ At b i' := by
 obtain ⟨x, i1, h1, e1, x0, x1, a1⟩ := l1Below_f b i h (l.length : Int) ha (by omega)
 unfold spec_l1Str.f
 rw [e1, Option.bind_some]
 simp only
 rw [if_pos x0, if_pos x1]
 refine ⟨_, _, _, rfl, ?_, a1⟩
 have hx : x.toNat < l.length := by omega
 unfold rdOf
 rw [List.getD_eq_getElem?_getD, List.getElem?_eq_getElem hx, Option.getD_some]
 exact List.getElem_mem hx
theorem l1Once_f (b : List Int) (i h n : Int) (ha : At b i) (hn : 1 ≤ n) : ∃ x i' h', spec_l1Once.f b i h n = some (x, i', h') ∧ At b i' := by
 obtain ⟨x, i1, h1, e1, x0, x1, a1⟩ := l1Below_f b i h n ha hn
 unfold spec_l1Once.f
 rw [e1, Option.bind_some]
 exact ⟨_, _, _, rfl, a1⟩
theorem l4Uri_f (b : List Int) (i h : Int) (ha : At b i) : ∃ x i' h', spec_l4Uri.f b i h = some (x, i', h') ∧ At b i' := by
 obtain ⟨x, i1, h1, e1, _, a1⟩ := l1Str_f b i h _ ha (show 1 ≤ ([(⟨#[117, 114, 110, 58, 117]⟩ : ByteArray), (⟨#[117, 114, 110, 58, 118]⟩ : ByteArray), (⟨#[117, 114, 110, 58, 119]⟩ : ByteArray)] : List ByteArray).length by decide)
 unfold spec_l4Uri.f
 rw [e1, Option.bind_some]
 exact ⟨_, _, _, rfl, a1⟩
theorem l4Decl_f (b : List Int) (i h : Int) (ha : At b i) : ∃ p u i' h', spec_l4Decl.f b i h = some (p, u, i', h') ∧ p.size ≤ 64 ∧ At b i' := by
 obtain ⟨x, i1, h1, e1, m1, a1⟩ := l1Str_f b i h _ ha (show 1 ≤ ([(⟨#[]⟩ : ByteArray), (⟨#[112]⟩ : ByteArray), (⟨#[113]⟩ : ByteArray), (⟨#[114]⟩ : ByteArray)] : List ByteArray).length by decide)
 have hx : x.size ≤ 64 := by
  simp only [List.mem_cons, List.not_mem_nil, or_false] at m1
  rcases m1 with rfl | rfl | rfl | rfl <;> decide
 obtain ⟨u, i2, h2, e2, a2⟩ := l4Uri_f b i1 h1 a1
 obtain ⟨o, i3, h3, e3, a3⟩ := l1Once_f b i2 h2 3 a2 (by omega)
 unfold spec_l4Decl.f
 rw [e1, Option.bind_some]
 simp only
 rw [e2, Option.bind_some]
 simp only
 by_cases c : x.toList = ([] : List UInt8)
 ·rw [if_pos c, e3, Option.bind_some]
  simp only
  by_cases c2 : o = true
  ·rw [if_pos c2]
   exact ⟨_, _, _, _, rfl, hx, a3⟩
  ·rw [if_neg c2]
   exact ⟨_, _, _, _, rfl, hx, a3⟩
 ·rw [if_neg c]
  exact ⟨_, _, _, _, rfl, hx, a2⟩
def Fine (l : List S88) : Prop := ∀ x ∈ l, x.f0.size ≤ 64
theorem Fine.app {l m : List S88} (h : Fine l) (k : Fine m) : Fine (l ++ m) := fun x hx => (List.mem_append.1 hx).elim (h x) (k x)
theorem Fine.one {p u : ByteArray} (h : p.size ≤ 64) : Fine [⟨p, u⟩] := fun x hx => by
 simp only [List.mem_cons, List.not_mem_nil, or_false] at hx
 subst hx
 exact h
theorem l4Draw_l (b : List Int) : ∀ (n : Nat) (x : List S88) (i h : Int), x.length + n ≤ 1000 → Fine x → At b i →
  ∃ l i' h', Ev (fun k => spec_l4Draw.l0 k x (n : Int) b i h) (l, i', h') ∧ Fine l ∧ l.length ≤ x.length + n ∧ At b i' := by
 intro n
 induction n with
 | zero =>
  intro x i h hn hf ha
  exact ⟨x, i, h, Ev.step (f := fun _ => some _) (fun k => by simp only [spec_l4Draw.l0]; rw [if_neg (by omega)]) (Ev.now _), hf, by omega, ha⟩
 | succ n ih =>
  intro x i h hn hf ha
  obtain ⟨p, u, i1, h1, e1, hp, a1⟩ := l4Decl_f b i h ha
  have w1 : wrap64 (((n + 1 : Nat) : Int) - 1) = (n : Int) := by rw [w64 (by omega) (by omega)]; omega
  by_cases h0 : (x.length : Int) = 0
  ·obtain ⟨l, i2, h2, e2, hl, hle, a2⟩ := ih (x ++ [⟨p, u⟩]) i1 h1 (by simp; omega) (hf.app (Fine.one hp)) a1
   refine ⟨l, i2, h2, Ev.step (fun k => ?_) e2, hl, by simp at hle; omega, a2⟩
   simp only [spec_l4Draw.l0]
   rw [if_pos (by omega), e1, Option.bind_some]
   simp only
   rw [if_pos h0, if_pos (by omega), w1]
  ·have w2 : wrap64 ((x.length : Int) - 1) = (x.length : Int) - 1 := w64 (by omega) (by omega)
   by_cases hc : (Op.bytesLess (((rd_T88 x ((x.length : Int) - 1)).f0).toList) p.toList) = true
   ·obtain ⟨l, i2, h2, e2, hl, hle, a2⟩ := ih (x ++ [⟨p, u⟩]) i1 h1 (by simp; omega) (hf.app (Fine.one hp)) a1
    refine ⟨l, i2, h2, Ev.step (fun k => ?_) e2, hl, by simp at hle; omega, a2⟩
    simp only [spec_l4Draw.l0]
    rw [if_pos (by omega), e1, Option.bind_some]
    simp only
    rw [if_neg h0, w2, if_pos (by omega), if_pos (by omega), if_pos hc, if_pos (by omega), w1]
   ·obtain ⟨l, i2, h2, e2, hl, hle, a2⟩ := ih x i1 h1 (by omega) hf a1
    refine ⟨l, i2, h2, Ev.step (fun k => ?_) e2, hl, by omega, a2⟩
    simp only [spec_l4Draw.l0]
    rw [if_pos (by omega), e1, Option.bind_some]
    simp only
    rw [if_neg h0, w2, if_pos (by omega), if_pos (by omega), if_neg hc, w1]
theorem l4Draw_f (b : List Int) (i h : Int) (ha : At b i) : ∃ l i' h', Ev (fun k => spec_l4Draw.f k b i h) (l, i', h') ∧ Fine l ∧ l.length ≤ 4 ∧ At b i' := by
 obtain ⟨n, i1, h1, e1, n0, n1, a1⟩ := l1Below_f b i h 4 ha (by omega)
 obtain ⟨m, rfl⟩ := Int.eq_ofNat_of_zero_le n0
 obtain ⟨l, i2, h2, e2, hl, hle, a2⟩ := l4Draw_l b m [] i1 h1 (by simp; omega) (fun x hx => by cases hx) a1
 exact ⟨l, i2, h2, Ev.congr (fun k => by unfold spec_l4Draw.f; rw [e1, Option.bind_some]) e2, hl, by simp at hle; omega, a2⟩
def pDecl (a : ByteArray) (d : S88) : Bool := d.f0.toList == a.toList
def rSpace (a : ByteArray) (o : Option S88) : ByteArray × Bool :=
 match o with
 | some d => (d.f1, true)
 | none => (⟨#[]⟩, a.toList == [])
def spaceOf (l : List S88) (a : ByteArray) : ByteArray × Bool := rSpace a (l.reverse.find? (pDecl a))
theorem spaceOf_l0 (l : List S88) (a : ByteArray) (hl : l.length ≤ 9223372036854775807) : ∀ i : Nat, i ≤ l.length → Ev (fun k => spec_SpaceOf.l0 k l a ((i : Int) - 1)) (rSpace a ((l.take i).reverse.find? (pDecl a))) := by
 intro i
 induction i with
 | zero =>
  intro _
  refine Ev.step (fun k => ?_) (Ev.now _)
  simp only [spec_SpaceOf.l0]
  rw [if_neg (by omega)]
  rfl
 | succ i ih =>
  intro hi
  have hrd := rd_IDecl l i (by omega)
  have e1 : ((i + 1 : Nat) : Int) - 1 = (i : Int) := by omega
  rw [e1, List.take_succ_eq_append_getElem (by omega), List.reverse_append]
  simp only [List.reverse_cons, List.reverse_nil, List.nil_append, List.cons_append]
  by_cases hp : l[i].f0.toList = a.toList
  ·rw [List.find?_cons_of_pos (by unfold pDecl; simpa using hp)]
   refine Ev.step (fun k => ?_) (Ev.now _)
   simp only [spec_SpaceOf.l0]
   rw [if_pos (by omega), if_pos (by omega), if_pos (by omega), hrd, if_pos hp]
   rfl
  ·rw [List.find?_cons_of_neg (by unfold pDecl; simpa using hp)]
   refine Ev.step (fun k => ?_) (ih (by omega))
   simp only [spec_SpaceOf.l0]
   rw [if_pos (by omega), if_pos (by omega), if_pos (by omega), hrd, if_neg hp, w64 (by omega) (by omega)]
theorem spaceOf_spec (l : List S88) (a : ByteArray) (hl : l.length ≤ 9223372036854775807) : Ev (fun k => spec_SpaceOf.f k l a) (spaceOf l a) := by
 have h := spaceOf_l0 l a hl l.length (Nat.le_refl _)
 rw [List.take_length] at h
 refine Ev.congr (fun k => ?_) h
 unfold spec_SpaceOf.f
 rw [w64 (by omega) (by omega)]
theorem inner_spec (a b : List S88) (ha : a.length ≤ 1048576) (hb : b.length ≤ 1048576) : spec_Inner.f a b = some (a ++ b) := by
 unfold spec_Inner.f
 simp only [Option.bind_some, List.nil_append, List.length_nil]
 rw [if_pos (by omega), if_pos (by omega)]
theorem Ev.now' {α β : Type} {g : Option α} {f : Nat → α → Option β} {a : α} {r : β} (e : g = some a) (k : Ev (fun n => f n a) r) : Ev (fun n => g.bind (f n)) r := by
 subst e
 exact k
theorem l5Val_f (b : List Int) (i h : Int) (ha : At b i) : ∃ x i' h', spec_l5Val.f b i h = some (x, i', h') ∧ At b i' := by
 unfold spec_l5Val.f
 obtain ⟨x, i1, h1, e1, _, a1⟩ := l1Str_f b i h _ ha (show 1 ≤ ([(⟨#[]⟩ : ByteArray), (⟨#[49]⟩ : ByteArray), (⟨#[50]⟩ : ByteArray), (⟨#[120, 32, 121]⟩ : ByteArray), (⟨#[195, 169]⟩ : ByteArray), (⟨#[60, 38, 62, 34]⟩ : ByteArray), (⟨#[97, 10, 98]⟩ : ByteArray), (⟨#[9]⟩ : ByteArray)] : List ByteArray).length by decide)
 rw [e1, Option.bind_some]
 exact ⟨_, _, _, rfl, a1⟩
theorem l5Less_some (a b c d p q r s : ByteArray) : ∃ o, spec_l5Less.f a b c d p q r s = some o := by
 unfold spec_l5Less.f
 by_cases h : (Op.bytesLess c.toList r.toList) = true
 ·rw [if_pos h]; exact ⟨_, rfl⟩
 ·rw [if_neg h]
  by_cases h2 : c.toList = r.toList
  ·rw [if_pos h2]; exact ⟨_, rfl⟩
  ·rw [if_neg h2]; exact ⟨_, rfl⟩
theorem less_some (acc : List S90) (a : S90) : ∃ o, spec_l5El.less acc a = some o := by
 unfold spec_l5El.less
 cases acc.getLast? with
 | none => exact ⟨_, rfl⟩
 | some b => exact l5Less_some ..
theorem ats_step (k : Nat) (s0 : List Int) (all : List S88) (n : Nat) (i : Int) (acc : List S90) (s1 s2 : Int) (hi : i > 0) (hb : acc.length < 1099511627776 ∧ i ≤ 1048576) {t v p x : ByteArray} {xb bb : Bool} {m1 m2 n1 n2 o1 o2 : Int} {y : S90}
  (e1 : spec_l1Str.f s0 s1 s2 ([(⟨#[105, 100]⟩ : ByteArray), (⟨#[107]⟩ : ByteArray), (⟨#[118]⟩ : ByteArray)] : List ByteArray) = some (t, m1, m2)) (e2 : spec_l5Val.f s0 m1 m2 = some (v, n1, n2)) (e3 : spec_l1Str.f s0 n1 n2 ([(⟨#[]⟩ : ByteArray), (⟨#[]⟩ : ByteArray), (⟨#[112]⟩ : ByteArray)] : List ByteArray) = some (p, o1, o2)) (e4 : spec_SpaceOf.f k all p = some (x, xb))
  (hy : y = (if p.toList ≠ [] ∧ xb = true then ⟨p, t, x, v⟩ else ⟨(⟨#[]⟩ : ByteArray), t, (⟨#[]⟩ : ByteArray), v⟩)) (e5 : spec_l5El.less acc y = some bb) : spec_l5El.ats k s0 all (n + 1) i acc s1 s2 = spec_l5El.ats k s0 all n (i - 1) (if bb = true then acc ++ [y] else acc) o1 o2 := by
 simp only [spec_l5El.ats]
 rw [if_pos hi, if_pos hb, e1, Option.bind_some]
 simp only
 rw [e2, Option.bind_some]
 simp only
 rw [e3, Option.bind_some]
 simp only
 rw [e4, Option.bind_some]
 simp only
 rw [← hy, e5, Option.bind_some]
theorem ats_f (b : List Int) (all : List S88) (hl : all.length ≤ 1048576) : ∀ (n : Nat) (acc : List S90) (i h : Int), acc.length + n ≤ 1000 → At b i →
  ∃ r i' h', (∃ K, ∀ k, K ≤ k → ∀ f, n < f → spec_l5El.ats k b all f (n : Int) acc i h = some (r, i', h')) ∧ r.length ≤ acc.length + n ∧ At b i' := by
 intro n
 induction n with
 | zero =>
  intro acc i h hn ha
  refine ⟨acc, i, h, ⟨0, fun k _ f hf => ?_⟩, by omega, ha⟩
  obtain ⟨g, rfl⟩ : ∃ g, f = g + 1 := ⟨f - 1, by omega⟩
  simp only [spec_l5El.ats]
  rw [if_neg (by omega)]
 | succ n ih =>
  intro acc i h hn ha
  obtain ⟨t, m1, m2, e1, _, a1⟩ := l1Str_f b i h ([(⟨#[105, 100]⟩ : ByteArray), (⟨#[107]⟩ : ByteArray), (⟨#[118]⟩ : ByteArray)] : List ByteArray) ha (by decide)
  obtain ⟨v, n1, n2, e2, a2⟩ := l5Val_f b m1 m2 a1
  obtain ⟨p, o1, o2, e3, _, a3⟩ := l1Str_f b n1 n2 ([(⟨#[]⟩ : ByteArray), (⟨#[]⟩ : ByteArray), (⟨#[112]⟩ : ByteArray)] : List ByteArray) a2 (by decide)
  obtain ⟨K1, hK1⟩ := spaceOf_spec all p (by omega)
  obtain ⟨y, hy⟩ : ∃ y : S90, y = (if p.toList ≠ [] ∧ (spaceOf all p).2 = true then ⟨p, t, (spaceOf all p).1, v⟩ else ⟨(⟨#[]⟩ : ByteArray), t, (⟨#[]⟩ : ByteArray), v⟩) := ⟨_, rfl⟩
  obtain ⟨bb, e5⟩ := less_some acc y
  have hlen : (if bb = true then acc ++ [y] else acc).length ≤ acc.length + 1 := by
   by_cases hbb : bb = true
   ·rw [if_pos hbb, List.length_append, List.length_singleton]; omega
   ·rw [if_neg hbb]; omega
  obtain ⟨r, i', h', ⟨K2, hK2⟩, hr, ha'⟩ := ih (if bb = true then acc ++ [y] else acc) o1 o2 (by omega) a3
  refine ⟨r, i', h', ⟨max K1 K2, fun k hk f hf => ?_⟩, by omega, ha'⟩
  obtain ⟨g, rfl⟩ : ∃ g, f = g + 1 := ⟨f - 1, by omega⟩
  rw [ats_step k b all g ((n + 1 : Nat) : Int) acc i h (by omega) ⟨by omega, by omega⟩ e1 e2 e3 (hK1 k (by omega)) hy e5, show ((n + 1 : Nat) : Int) - 1 = (n : Int) by omega]
  exact hK2 k (by omega) g (by omega)
/-- What is known of a node that is drawn. -/
def Drawn (b : List Int) (x : S34) (q q' i' : Int) : Prop := 0 ≤ q' ∧ q' ≤ q ∧ vNode x ≤ 16 + 32 * (q - q') ∧ x.f7.size ≤ 8 ∧ At b i'
theorem vText (k : Int) (a b c t : ByteArray) : vNode ⟨k, a, b, c, [], [], [], t⟩ = 0 := by rw [vNode_eq]; rfl
theorem kid_f (b : List Int) (F : Nat → Int → Int → Int → Option spec_l5El.Res) (q : Int) (h0 : 0 ≤ q)
  (hF : ∀ i h, At b i → ∃ x q' i' h', Ev (fun k => F k i h q) (x, q', i', h') ∧ Drawn b x q q' i') (c i h : Int) (ha : At b i) :
  ∃ x q' i' h', Ev (fun k => spec_l5El.kid (F k) b c q i h) (x, q', i', h') ∧ Drawn b x q q' i' := by
 unfold spec_l5El.kid
 by_cases c0 : c = 0 ∨ c = 1
 ·obtain ⟨t, i1, h1, e1, m1, a1⟩ := l1Str_f b i h ([(⟨#[120]⟩ : ByteArray), (⟨#[121]⟩ : ByteArray), (⟨#[32]⟩ : ByteArray), (⟨#[10, 32, 32]⟩ : ByteArray), (⟨#[49]⟩ : ByteArray), (⟨#[226, 130, 172, 60]⟩ : ByteArray)] : List ByteArray) ha (by decide)
  refine ⟨_, q, i1, h1, Ev.congr (fun k => by rw [if_pos c0, e1, Option.bind_some]) (Ev.now _), h0, by omega, by rw [vText]; omega, ?_, a1⟩
  show t.size ≤ 8
  simp only [List.mem_cons, List.not_mem_nil, or_false] at m1
  rcases m1 with rfl | rfl | rfl | rfl | rfl | rfl <;> decide
 ·by_cases c2 : c = 2
  ·obtain ⟨t, i1, h1, e1, m1, a1⟩ := l1Str_f b i h ([(⟨#[]⟩ : ByteArray), (⟨#[110]⟩ : ByteArray), (⟨#[32, 109, 32]⟩ : ByteArray)] : List ByteArray) ha (by decide)
   refine ⟨_, q, i1, h1, Ev.congr (fun k => by rw [if_neg c0, if_pos c2, e1, Option.bind_some]) (Ev.now _), h0, by omega, by rw [vText]; omega, ?_, a1⟩
   show t.size ≤ 8
   simp only [List.mem_cons, List.not_mem_nil, or_false] at m1
   rcases m1 with rfl | rfl | rfl <;> decide
  ·by_cases c3 : c = 3
   ·obtain ⟨t, i1, h1, e1, m1, a1⟩ := l1Str_f b i h ([(⟨#[]⟩ : ByteArray), (⟨#[103, 111]⟩ : ByteArray)] : List ByteArray) ha (by decide)
    refine ⟨_, q, i1, h1, Ev.congr (fun k => by rw [if_neg c0, if_neg c2, if_pos c3, e1, Option.bind_some]) (Ev.now _), h0, by omega, by rw [vText]; omega, ?_, a1⟩
    show t.size ≤ 8
    simp only [List.mem_cons, List.not_mem_nil, or_false] at m1
    rcases m1 with rfl | rfl <;> decide
   ·obtain ⟨x, q', i1, h1, e1, d1⟩ := hF i h ha
    exact ⟨x, q', i1, h1, Ev.congr (fun k => by rw [if_neg c0, if_neg c2, if_neg c3]) e1, d1⟩
theorem kids_step (F : Int → Int → Int → Option spec_l5El.Res) (s0 : List Int) (n : Nat) (i : Int) (acc : List S34) (q s1 s2 : Int) (hi : i > 0 ∧ q > 0) (hb : acc.length < 549755813888 ∧ i ≤ 1048576 ∧ q ≤ 1048576) {c m1 m2 q' o1 o2 : Int} {x : S34}
  (e1 : spec_l1Below.f s0 s1 s2 6 = some (c, m1, m2)) (e2 : spec_l5El.kid F s0 c (q - 1) m1 m2 = some (x, q', o1, o2)) : spec_l5El.kids F s0 (n + 1) i acc q s1 s2 = spec_l5El.kids F s0 n (i - 1) (acc ++ [x]) q' o1 o2 := by
 simp only [spec_l5El.kids]
 rw [if_pos hi, if_pos hb, e1, Option.bind_some]
 simp only
 rw [e2, Option.bind_some]
theorem kids_f (b : List Int) (F : Nat → Int → Int → Int → Option spec_l5El.Res) (Q : Int) (hQ : Q ≤ 1000)
  (hF : ∀ q, 0 ≤ q → q < Q → ∀ i h, At b i → ∃ x q' i' h', Ev (fun k => F k i h q) (x, q', i', h') ∧ Drawn b x q q' i') : ∀ (n : Nat) (acc : List S34) (q i h : Int), acc.length + n ≤ 1000 → 0 ≤ q → q ≤ Q → At b i →
  ∃ r q' i' h', (∃ K, ∀ k, K ≤ k → ∀ f, n < f → spec_l5El.kids (F k) b f (n : Int) acc q i h = some (r, q', i', h')) ∧ 0 ≤ q' ∧ q' ≤ q ∧ (r.length : Int) + sumOf vNode r ≤ (acc.length : Int) + sumOf vNode acc + 32 * (q - q') ∧ sumOf tS r ≤ sumOf tS acc + 8 * (n : Int) ∧ At b i' := by
 intro n
 induction n with
 | zero =>
  intro acc q i h hn h0 h1 ha
  refine ⟨acc, q, i, h, ⟨0, fun k _ f hf => ?_⟩, h0, by omega, by omega, by omega, ha⟩
  obtain ⟨g, rfl⟩ : ∃ g, f = g + 1 := ⟨f - 1, by omega⟩
  simp only [spec_l5El.kids]
  rw [if_neg (by omega)]
 | succ n ih =>
  intro acc q i h hn h0 h1 ha
  by_cases hq : q > 0
  ·obtain ⟨c, m1, m2, e1, _, _, a1⟩ := l1Below_f b i h 6 ha (by omega)
   obtain ⟨x, q2, o1, o2, ⟨K1, hK1⟩, d0, d1, d2, d3, a2⟩ := kid_f b F (q - 1) (by omega) (hF (q - 1) (by omega) (by omega)) c m1 m2 a1
   obtain ⟨r, q', i', h', ⟨K2, hK2⟩, r0, r1, r2, r3, ha'⟩ := ih (acc ++ [x]) q2 o1 o2 (by rw [List.length_append, List.length_singleton]; omega) d0 (by omega) a2
   rw [List.length_append, List.length_singleton, sumOf_append, sumOf_cons, sumOf_nil] at r2
   rw [sumOf_append, sumOf_cons, sumOf_nil] at r3
   have ht : tS x = (x.f7.size : Int) := rfl
   refine ⟨r, q', i', h', ⟨max K1 K2, fun k hk f hf => ?_⟩, r0, by omega, by omega, by omega, ha'⟩
   obtain ⟨g, rfl⟩ : ∃ g, f = g + 1 := ⟨f - 1, by omega⟩
   rw [kids_step (F k) b g ((n + 1 : Nat) : Int) acc q i h ⟨by omega, hq⟩ ⟨by omega, by omega, by omega⟩ e1 (hK1 k (by omega)), show ((n + 1 : Nat) : Int) - 1 = (n : Int) by omega]
   exact hK2 k (by omega) g (by omega)
  ·refine ⟨acc, q, i, h, ⟨0, fun k _ f hf => ?_⟩, h0, by omega, by omega, by omega, ha⟩
   obtain ⟨g, rfl⟩ : ∃ g, f = g + 1 := ⟨f - 1, by omega⟩
   simp only [spec_l5El.kids]
   rw [if_neg (by omega)]
theorem el_step (b : List Int) (l : List S88) (hl : l.length ≤ 4000) (q : Int) (h0 : 0 ≤ q) (hq : q ≤ 1000)
  (hF : ∀ all : List S88, all.length ≤ l.length + 4 → ∀ q1, 0 ≤ q1 → q1 < q → ∀ i h, At b i → ∃ x q' i' h', Ev (fun k => spec_l5El.f k b i h all q1) (x, q', i', h') ∧ Drawn b x q1 q' i') (i h : Int) (ha : At b i) :
  ∃ x q' i' h', Ev (fun k => spec_l5El.f k b i h l q) (x, q', i', h') ∧ Drawn b x q q' i' := by
 obtain ⟨t, i1, h1, e1, _, a1⟩ := l1Str_f b i h ([(⟨#[97]⟩ : ByteArray), (⟨#[98]⟩ : ByteArray), (⟨#[99]⟩ : ByteArray), (⟨#[105, 116, 101, 109]⟩ : ByteArray)] : List ByteArray) ha (by decide)
 obtain ⟨bo, i2, h2, e2, a2⟩ := l1Once_f b i1 h1 4 a1 (by omega)
 obtain ⟨d, i3, h3, e3, hd, a3⟩ : ∃ d i3 h3, Ev (fun k => if bo = true then spec_l4Draw.f k b i2 h2 else some ([], i2, h2)) (d, i3, h3) ∧ d.length ≤ 4 ∧ At b i3 := by
  by_cases c : bo = true
  ·obtain ⟨d, i3, h3, e3, _, hd, a3⟩ := l4Draw_f b i2 h2 a2
   exact ⟨d, i3, h3, Ev.congr (fun k => by rw [if_pos c]) e3, hd, a3⟩
  ·exact ⟨[], i2, h2, Ev.congr (fun k => by rw [if_neg c]) (Ev.now _), by simp, a2⟩
 have hall : (l ++ d).length ≤ l.length + 4 := by rw [List.length_append]; omega
 have e4 := inner_spec l d (by omega) (by omega)
 obtain ⟨eo, i5, h5, e5, a5⟩ := l1Once_f b i3 h3 4 a3 (by omega)
 obtain ⟨p, i6, h6, e6, a6⟩ : ∃ p i6 h6, (if eo = true then spec_l1Str.f b i5 h5 ([(⟨#[112]⟩ : ByteArray), (⟨#[113]⟩ : ByteArray)] : List ByteArray) else some ((⟨#[]⟩ : ByteArray), i5, h5)) = some (p, i6, h6) ∧ At b i6 := by
  by_cases c : eo = true
  ·obtain ⟨p, i6, h6, e6, _, a6⟩ := l1Str_f b i5 h5 ([(⟨#[112]⟩ : ByteArray), (⟨#[113]⟩ : ByteArray)] : List ByteArray) a5 (by decide)
   exact ⟨p, i6, h6, by rw [if_pos c, e6], a6⟩
  ·exact ⟨(⟨#[]⟩ : ByteArray), i5, h5, by rw [if_neg c], a5⟩
 have e7 := spaceOf_spec (l ++ d) p (by omega)
 obtain ⟨pu, e8⟩ : ∃ pu, Ev (fun k => if (spaceOf (l ++ d) p).2 = true then some (p, (spaceOf (l ++ d) p).1) else (spec_SpaceOf.f k (l ++ d) (⟨#[]⟩ : ByteArray)).bind fun v => some ((⟨#[]⟩ : ByteArray), v.1)) pu := by
  by_cases c : (spaceOf (l ++ d) p).2 = true
  ·exact ⟨_, Ev.congr (fun k => by rw [if_pos c]) (Ev.now _)⟩
  ·exact ⟨_, Ev.congr (fun k => by rw [if_neg c]) (Ev.bind (spaceOf_spec (l ++ d) (⟨#[]⟩ : ByteArray) (by omega)) (Ev.now _))⟩
 obtain ⟨c9, i9, h9, e9, n0, n1, a9⟩ := l1Below_f b i6 h6 3 a6 (by omega)
 obtain ⟨n, rfl⟩ := Int.eq_ofNat_of_zero_le n0
 obtain ⟨az, i10, h10, ⟨K10, hK10⟩, has, a10⟩ := ats_f b (l ++ d) (by omega) n [] i9 h9 (by simp; omega) a9
 obtain ⟨c11, i11, h11, e11, m0, m1, a11⟩ := l1Below_f b i10 h10 4 a10 (by omega)
 obtain ⟨m, rfl⟩ := Int.eq_ofNat_of_zero_le m0
 obtain ⟨ks, q', i12, h12, ⟨K12, hK12⟩, q0, q1, kv, kt, a12⟩ := kids_f b (fun k y1 y2 y3 => spec_l5El.f k b y1 y2 (l ++ d) y3) q hq (fun q1 g0 g1 => hF (l ++ d) hall q1 g0 g1) m [] q i11 h11 (by simp; omega) h0 (by omega) a11
 rw [sumOf_nil] at kv kt
 simp only [List.length_nil] at kv has
 obtain ⟨e13, _, hv⟩ := merge_f ks (by omega) (by omega)
 have e10 : Ev (fun k => spec_l5El.ats k b (l ++ d) k (n : Int) [] i9 h9) (az, i10, h10) := ⟨max K10 (n + 1), fun k hk => hK10 k (by omega) k (by omega)⟩
 have e12 : Ev (fun k => spec_l5El.kids (fun y1 y2 y3 => spec_l5El.f k b y1 y2 (l ++ d) y3) b k (m : Int) [] q i11 h11) (ks, q', i12, h12) := ⟨max K12 (m + 1), fun k hk => hK12 k (by omega) k (by omega)⟩
 refine ⟨⟨1, pu.1, t, pu.2, d, az, ks.foldl mgS [], (⟨#[]⟩ : ByteArray)⟩, q', i12, h12, Ev.step (fun k => by simp only [spec_l5El.f]; rfl) ?_, q0, q1, ?_, show ((⟨#[]⟩ : ByteArray)).size ≤ 8 from by decide, a12⟩
 ·refine Ev.now' e1 (Ev.now' e2 (Ev.bind e3 (Ev.now' e4 (Ev.now' e5 (Ev.now' e6 (Ev.bind e7 (Ev.bind e8 (Ev.now' e9 (Ev.bind e10 (Ev.now' e11 (Ev.bind e12 (Ev.bind e13 ?_))))))))))))
  exact Ev.now _
 ·rw [vNode_eq]
  show (d.length : Int) + (az.length : Int) + (((ks.foldl mgS []).length : Int) + sumOf vNode (ks.foldl mgS [])) ≤ _
  omega
theorem el_f (b : List Int) : ∀ (Q : Nat) (l : List S88) (q : Int), l.length + 4 * Q ≤ 4000 → 0 ≤ q → q < Q → Q ≤ 1000 → ∀ i h, At b i → ∃ x q' i' h', Ev (fun k => spec_l5El.f k b i h l q) (x, q', i', h') ∧ Drawn b x q q' i' := by
 intro Q
 induction Q with
 | zero => intro l q _ h0 h1; omega
 | succ Q ih =>
  intro l q hl h0 h1 hQ i h ha
  exact el_step b l (by omega) q h0 (by omega) (fun all ha' q1 g0 g1 i h ha => ih all q1 (by omega) g0 (by omega) (by omega) i h ha) i h ha
theorem one_f (b : List Int) (c i h : Int) (ha : At b i) : ∃ x i' h', Ev (fun k => spec_DrawMerge.one k b c i h) (x, i', h') ∧ vNode x ≤ 80 ∧ x.f7.size ≤ 8 ∧ At b i' := by
 unfold spec_DrawMerge.one
 by_cases c0 : c = 0 ∨ c = 1
 ·obtain ⟨t, i1, h1, e1, m1, a1⟩ := l1Str_f b i h ([(⟨#[]⟩ : ByteArray), (⟨#[120]⟩ : ByteArray), (⟨#[32]⟩ : ByteArray)] : List ByteArray) ha (by decide)
  refine ⟨_, i1, h1, Ev.congr (fun k => by rw [if_pos c0, e1, Option.bind_some]) (Ev.now _), by rw [vText]; omega, ?_, a1⟩
  show t.size ≤ 8
  simp only [List.mem_cons, List.not_mem_nil, or_false] at m1
  rcases m1 with rfl | rfl | rfl <;> decide
 ·obtain ⟨x, q', i1, h1, e1, d0, d1, d2, d3, a1⟩ := el_f b 3 [] 2 (by simp) (by omega) (by omega) (by omega) i h ha
  exact ⟨x, i1, h1, Ev.congr (fun k => by rw [if_neg c0]) (Ev.bind e1 (Ev.now _)), by omega, d3, a1⟩
theorem dm_f (b : List Int) : ∀ (n : Nat) (acc : List S34) (i h : Int), acc.length + n ≤ 1000 → At b i →
  ∃ r, (∃ K, ∀ k, K ≤ k → ∀ f, n < f → spec_DrawMerge.l0 k b f (n : Int) acc i h = some r) ∧ (r.length : Int) + sumOf vNode r ≤ (acc.length : Int) + sumOf vNode acc + 100 * (n : Int) ∧ sumOf tS r ≤ sumOf tS acc + 8 * (n : Int) := by
 intro n
 induction n with
 | zero =>
  intro acc i h hn ha
  refine ⟨acc, ⟨0, fun k _ f hf => ?_⟩, by omega, by omega⟩
  obtain ⟨g, rfl⟩ : ∃ g, f = g + 1 := ⟨f - 1, by omega⟩
  simp only [spec_DrawMerge.l0]
  rw [if_neg (by omega)]
 | succ n ih =>
  intro acc i h hn ha
  obtain ⟨c, m1, m2, e1, _, _, a1⟩ := l1Below_f b i h 3 ha (by omega)
  obtain ⟨x, o1, o2, ⟨K1, hK1⟩, d2, d3, a2⟩ := one_f b c m1 m2 a1
  obtain ⟨r, ⟨K2, hK2⟩, r2, r3⟩ := ih (acc ++ [x]) o1 o2 (by rw [List.length_append, List.length_singleton]; omega) a2
  rw [List.length_append, List.length_singleton, sumOf_append, sumOf_cons, sumOf_nil] at r2
  rw [sumOf_append, sumOf_cons, sumOf_nil] at r3
  have ht : tS x = (x.f7.size : Int) := rfl
  have c1 : ((n + 1 : Nat) : Int) > 0 := by omega
  have c2 : acc.length < 549755813888 ∧ ((n + 1 : Nat) : Int) ≤ 1048576 := ⟨by omega, by omega⟩
  have c3 : ((n + 1 : Nat) : Int) - 1 = (n : Int) := by omega
  refine ⟨r, ⟨max K1 K2, fun k hk f hf => ?_⟩, by omega, by omega⟩
  obtain ⟨g, rfl⟩ : ∃ g, f = g + 1 := ⟨f - 1, by omega⟩
  simp only [spec_DrawMerge.l0]
  rw [if_pos c1, e1, Option.bind_some]
  simp only
  have hk1 : spec_DrawMerge.one k b c m1 m2 = some (x, o1, o2) := hK1 k (by omega)
  rw [hk1, Option.bind_some]
  simp only
  rw [if_pos c2, c3]
  exact hK2 k (by omega) g (by omega)
theorem draw_f (code : List Int) (hb : code.length ≤ 1048576) : ∃ r, Ev (fun k => spec_DrawMerge.f k code) r ∧ (r.length : Int) + sumOf vNode r ≤ 1048576 ∧ sumOf tS r ≤ 1048576 := by
 obtain ⟨h, hnew⟩ := l1New_f code hb
 obtain ⟨c, i1, h1, e1, n0, n1, a1⟩ := l1Below_f code 0 h 7 (at0 code hb) (by omega)
 obtain ⟨n, rfl⟩ := Int.eq_ofNat_of_zero_le n0
 obtain ⟨r, ⟨K, hK⟩, r2, r3⟩ := dm_f code n [] i1 h1 (by simp; omega) a1
 rw [sumOf_nil] at r2 r3
 simp only [List.length_nil] at r2
 have e2 : Ev (fun k => spec_DrawMerge.l0 k code k (n : Int) [] i1 h1) r := ⟨max K (n + 1), fun k hk => hK k (by omega) k (by omega)⟩
 exact ⟨r, Ev.congr (fun k => by unfold spec_DrawMerge.f; rfl) (Ev.bind hnew (Ev.now' e1 e2)), by omega, by omega⟩
theorem FnMerges : laws_FnMerges.Pure := by
 intro code hw _ _
 refine Ev.rounds (r := true) ?_
 by_cases hbig : (code.length : Int) > 1048576
 ·refine Ev.congr (fun k => ?_) (Ev.now _)
  unfold laws_FnMerges.f laws_big.f
  rw [decide_eq_true hbig, Option.bind_some, if_pos rfl]
 obtain ⟨l, hd, hv, ht⟩ := draw_f code (by omega)
 obtain ⟨m1, m2, m3⟩ := merge_f l hv ht
 have hG := good_fold l [] good_nil
 have hid := mg_id (l.foldl mgS []) [] hG
 rw [List.nil_append] at hid
 have hB : tB (l.foldl mgS []) = tB l := tB_fold l []
 have hT := tS_all l []
 rw [sumOf_nil] at hT
 have hS := sumOf_nonneg vNode_n (l.foldl mgS [])
 have hS2 := sumOf_nonneg vNode_n l
 have hS3 := sumOf_nonneg tS_nonneg l
 have hz := (tF_size l ByteArray.empty).2
 have hz' : ((tB l).size : Int) ≤ ByteArray.empty.size + ((l.length : Int) + sumOf tS l) := hz
 have hz0 : ByteArray.empty.size = 0 := rfl
 obtain ⟨_, p2, _⟩ := merge_f (l.foldl mgS []) (by omega) (by omega)
 rw [hid] at p2
 have hs := sameList_ev (l.foldl mgS []) (by omega) (fun x hx => by have := sumOf_mem vNode_n hx; omega)
 have hE : Ev (fun k => (impl_Merge.f k (l.foldl mgS [])).bind fun t => (laws_sameList.f k t (l.foldl mgS [])).bind fun u => if u = true then (spec_Merge.f k l).bind fun v => (laws_sameList.f k (l.foldl mgS []) v).bind fun w => some w else some false) true := by
  refine Ev.bind p2 (Ev.bind hs (Ev.congr (fun k => by rw [if_pos rfl]) (Ev.bind m1 (Ev.bind hs (Ev.now _)))))
 have h1 := l1_ev l (l.foldl mgS []) (tB l) (by omega) hG hB.symm (by rw [hB]; omega) hE (l.foldl mgS []).length 0 (by omega) (by omega)
 have h0 := l0_ev l (l.foldl mgS []) (by omega) (by omega) h1 l.length 0 (by omega) (by omega)
 refine Ev.congr (fun k => by unfold laws_FnMerges.f laws_big.f; rw [decide_eq_false hbig, Option.bind_some, if_neg (by simp)]) (Ev.bind hd (Ev.bind m2 ?_))
 exact h0

end FnMerges_
theorem FnMerges : laws_FnMerges.Pure := FnMerges_.FnMerges
end Go.Proofs.Ytdbinpeglamnnaa.Pure
