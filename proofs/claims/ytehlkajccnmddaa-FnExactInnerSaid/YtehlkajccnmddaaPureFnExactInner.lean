/- The program's Inner (slices.Concat) and the reference's (append twice) answer alike at every two lists; the lists read as they did; what it hands back is a list of its own.
Conditions: none. -/
import Derived.Test.YtehlkajccnmddaaSaidFnExactInner
import Derived.Test.YtehlkajccnmddaaLists
namespace Go.Proofs.Ytehlkajccnmddaa.Pure
open Go.RowKit Go.Proofs.Ytehlkajccnmddaa.PI Go.Proofs.YtehlkajccnmddaaW.PrintWords Go.Proofs.YtehlkajccnmddaaW.PrintLast Go.Proofs.Ytehlkajccnmddaa.Lists
set_option linter.unusedVariables false
set_option linter.unusedSimpArgs false

namespace FnExactInner_
theorem rd_LDecl (l : List S75) (i : Nat) (h : i < l.length) : rd_T75 l (i : Int) = l[i] := by simp [rd_T75, List.getD_eq_getElem?_getD, List.getElem?_eq_getElem h]
theorem rd_IDecl (l : List S76) (i : Nat) (h : i < l.length) : rd_T76 l (i : Int) = l[i] := by simp [rd_T76, List.getD_eq_getElem?_getD, List.getElem?_eq_getElem h]
def convDecl (x : S75) : S76 := ⟨x.f0, x.f1⟩
theorem eqDecl_f (x : S76) : laws_eqDecl.f x.f0 x.f1 x.f0 x.f1 = some true := by
  unfold laws_eqDecl.f
  simp
def wDecl (x : S75) : Int := (x.f0.size : Int) + (x.f1.size : Int)
theorem wDecl_nonneg (x : S75) : 0 ≤ wDecl x := by unfold wDecl; omega
theorem szDecl_f (x : S75) (left : Int) (hw : WF75 x) (h0 : 0 ≤ left) (h1 : left ≤ 1048576) : ∃ r, laws_szDecl.f x.f0 x.f1 left = some r ∧ (0 ≤ r → r + wDecl x = left) := by
  obtain ⟨h_0, h_1⟩ := hw
  unfold maxLen at h_0 h_1
  unfold laws_szDecl.f wrap64 wDecl
  split
  · exact ⟨_, rfl, by omega⟩
  split
  · exact ⟨_, rfl, by omega⟩
  exact ⟨_, rfl, fun _ => by omega⟩
theorem szDeclS_f (l : List S75) (hw : l.length ≤ maxLen ∧ ∀ x ∈ l, WF75 x) (left : Int) (h0 : 0 ≤ left) (h1 : left ≤ 1048576) : ∃ r, Ev (fun k => laws_szDeclS.f k l left) r ∧ (0 ≤ r → r + ((l.length : Int) + sumOf wDecl l) = left) := by
  obtain ⟨hl, hw⟩ := hw
  unfold maxLen at hl
  have e : wrap64 (left - (l.length : Int)) = left - (l.length : Int) := w64 (by omega) (by omega)
  by_cases hn : left - (l.length : Int) < 0
  · exact ⟨-1, Ev.congr (fun k => by simp only [laws_szDeclS.f]; rw [e, if_pos hn]) (Ev.now _), fun h => by omega⟩
  · obtain ⟨r, hr, hrw⟩ := size_all (l := l) (w := wDecl) (M := 1048576) (G := fun k left i => laws_szDeclS.l0 k l left i) (H := fun _ left i => laws_szDecl.f (rd_T75 l (i : Int)).f0 (rd_T75 l (i : Int)).f1 left) wDecl_nonneg
      (fun k left i h0 hi => by simp only [laws_szDeclS.l0]; rw [if_pos (by omega), if_pos (by omega), w64 (by omega) (by omega)])
      (fun i hi left h0 h1 => by
        obtain ⟨r, a, b⟩ := szDecl_f l[i] left (hw _ (List.getElem_mem hi)) h0 h1
        exact ⟨r, Ev.congr (fun k => by rw [rd_LDecl l i hi]; exact a) (Ev.now r), b⟩)
      (fun k left h0 => by simp only [laws_szDeclS.l0]; rw [if_neg (by omega)]) (left - (l.length : Int)) (by omega) (by omega)
    exact ⟨r, Ev.congr (fun k => by simp only [laws_szDeclS.f]; rw [e, if_neg hn]) hr, fun h => by have := hrw h; omega⟩
theorem toDeclS_f (l : List S75) (hl : l.length ≤ 1048576) : Ev (fun k => laws_toDeclS.f k l) (l.map convDecl) := by
  have h := copy_all (l := l) (f := convDecl) (G := fun k x i => laws_toDeclS.l0 k l x i) (H := fun _ i => some (convDecl (rd_T75 l (i : Int)))) (List.replicate l.length z76) (by simp)
    (fun k x i hx hi => by
      simp only [laws_toDeclS.l0, laws_toDecl.f, Option.bind_some]
      rw [if_pos (by omega), if_pos (by omega), if_pos (by omega), w64 (by omega) (by omega), Int.toNat_natCast]
      rfl)
    (fun i hi => by rw [rd_LDecl l i hi]; exact Ev.now _) (fun k x hx => by simp only [laws_toDeclS.l0]; rw [if_neg (by omega)])
  refine Ev.congr (fun k => ?_) h
  simp only [laws_toDeclS.f, Int.toNat_natCast]
  rw [if_pos (by omega), if_pos (by omega)]
theorem eqDeclS_f (l : List S76) (hl : l.length ≤ 1048576) : Ev (fun k => laws_eqDeclS.f k l l) true := by
  have h := all_all (n := l.length) (G := fun k i => laws_eqDeclS.l0 k l l i) (H := fun _ i => laws_eqDecl.f (rd_T76 l (i : Int)).f0 (rd_T76 l (i : Int)).f1 (rd_T76 l (i : Int)).f0 (rd_T76 l (i : Int)).f1)
    (fun k i hi => by simp only [laws_eqDeclS.l0]; rw [if_pos (by omega), if_pos (by omega), if_pos (by omega), w64 (by omega) (by omega)])
    (fun i hi => Ev.congr (fun k => eqDecl_f _) (Ev.now true)) (fun k => by simp only [laws_eqDeclS.l0]; rw [if_neg (by omega)])
  refine Ev.congr (fun k => ?_) h
  simp only [laws_eqDeclS.f]
  rw [if_pos trivial]
theorem strOfNums_size (xs : List Int) : (strOfNums xs).size = xs.length := by
  unfold strOfNums
  simp [ByteArray.size]
theorem markText_l0 (n : Nat) : ∀ (i : Int) (acc : ByteArray), 0 ≤ i → i.toNat ≤ n → i ≤ 1152921504606846976 → (acc.size : Int) + i ≤ 2305843009213693952 → ∃ t, Ev (fun k => laws_markText.l0 k i acc) t := by
  induction n using Nat.strongRecOn with
  | _ n ih =>
    intro i acc h0 hn hi ha
    by_cases hp : i > 0
    · have e1 : Int.tdiv i 10 = i / 10 := Int.tdiv_eq_ediv_of_nonneg h0
      have hs : (strOfNums [wrap64 (48 + (Int.tmod i 10)) % 256]).size = 1 := by rw [strOfNums_size]; rfl
      have hap : ((strOfNums [wrap64 (48 + (Int.tmod i 10)) % 256]) ++ acc).size = 1 + acc.size := by rw [ByteArray.size_append, hs]
      obtain ⟨t, ht⟩ := ih (i / 10).toNat (by omega) (i / 10) ((strOfNums [wrap64 (48 + (Int.tmod i 10)) % 256]) ++ acc) (by omega) (by omega) (by omega) (by rw [hap]; omega)
      refine ⟨t, Ev.step (fun k => ?_) ht⟩
      simp only [laws_markText.l0, Option.bind_some]
      rw [if_pos hp, if_pos (by rw [hs]; omega), e1, w64 (by omega) (by omega)]
    · refine ⟨(⟨#[109]⟩ : ByteArray) ++ acc, Ev.step (fun k => ?_) (Ev.now _)⟩
      simp only [laws_markText.l0]
      rw [if_neg hp, if_pos (by omega)]
theorem markText_ex (i : Int) (hi : i ≤ 1152921504606846976) : ∃ t, Ev (fun k => laws_markText.f k i) t := by
  by_cases h : i ≤ 0
  · exact ⟨_, Ev.congr (fun k => by simp only [laws_markText.f]; rw [if_pos h]) (Ev.now _)⟩
  · obtain ⟨t, ht⟩ := markText_l0 i.toNat i ⟨#[]⟩ (by omega) (by omega) hi (by show ((0 : Nat) : Int) + i ≤ _; omega)
    exact ⟨t, Ev.congr (fun k => by simp only [laws_markText.f]; rw [if_neg h]) ht⟩
open Classical in
/-- What markText writes of a number. -/
noncomputable def mT (i : Int) : ByteArray := if h : ∃ t, Ev (fun k => laws_markText.f k i) t then h.choose else ⟨#[]⟩
theorem mT_ev (i : Int) (hi : i ≤ 1152921504606846976) : Ev (fun k => laws_markText.f k i) (mT i) := by
  have h := markText_ex i hi
  unfold mT
  rw [dif_pos h]
  exact h.choose_spec
/-- The list behind marks from a on. -/
noncomputable def mDecl (a : Int) (n : Nat) : List S76 := (List.range n).map fun (i : Nat) => ⟨mT (a + 2 * (i : Int)), mT (a + 2 * (i : Int) + 1)⟩
theorem mDecl_get (a : Int) (n i : Nat) (h : i < n) : (mDecl a n)[i]? = some ⟨mT (a + 2 * (i : Int)), mT (a + 2 * (i : Int) + 1)⟩ := by simp [mDecl, h]
theorem mDecl_length (a : Int) (n : Nat) : (mDecl a n).length = n := by simp [mDecl]
theorem rd_opt (l : List S76) (i : Nat) (x : S76) (h : l[i]? = some x) : rd_T76 l (i : Int) = x := by simp [rd_T76, List.getD_eq_getElem?_getD, h]
theorem markDecl_l0 (a : Int) (n : Nat) (hn : n ≤ 4194304) (ha : 0 ≤ a ∧ a ≤ 1099511627776) (d : Nat) : ∀ (i : Nat) (x : List S76), x.length = n → i ≤ n → n - i = d → (∀ j, j < i → x[j]? = (mDecl a n)[j]?) →
    Ev (fun k => laws_markDeclS.l0 k x (a + 2 * (i : Int)) (i : Int)) (a + 2 * (n : Int), mDecl a n) := by
  induction d with
  | zero =>
    intro i x hx hi hd hj
    have e : i = n := by omega
    subst e
    have ex : x = mDecl a i := List.ext_getElem? (fun j => by
      by_cases hlt : j < i
      · exact hj j hlt
      · rw [List.getElem?_eq_none (by omega), List.getElem?_eq_none (by rw [mDecl_length]; omega)])
    refine Ev.step (f := fun _ => some (a + 2 * (i : Int), x)) (fun k => ?_) (by rw [ex]; exact Ev.now _)
    simp only [laws_markDeclS.l0]
    rw [if_neg (by omega)]
  | succ d ih =>
    intro i x hx hi hd hj
    have hlt : i < n := by omega
    have w1 : wrap64 (a + 2 * (i : Int) + 1) = a + 2 * (i : Int) + 1 := w64 (by omega) (by omega)
    have w2 : wrap64 (a + 2 * (i : Int) + 1 + 1) = a + 2 * ((i + 1 : Nat) : Int) := by rw [w64 (by omega) (by omega)]; omega
    have w3 : wrap64 ((i : Int) + 1) = ((i + 1 : Nat) : Int) := by rw [w64 (by omega) (by omega)]; omega
    have hst : ∀ k, laws_markDeclS.l0 (k + 1) x (a + 2 * (i : Int)) (i : Int) = (laws_markText.f k (a + 2 * (i : Int))).bind fun t => (laws_markText.f k (a + 2 * (i : Int) + 1)).bind fun u => laws_markDeclS.l0 k (x.set i ⟨t, u⟩) (a + 2 * ((i + 1 : Nat) : Int)) ((i + 1 : Nat) : Int) := fun k => by
      simp only [laws_markDeclS.l0, Option.bind_some]
      rw [if_pos (by omega), w1, w2, w3]
      refine congrArg _ (funext fun t => ?_)
      rw [if_pos (by omega)]
      refine congrArg _ (funext fun u => ?_)
      rw [Int.toNat_natCast]
      have e1 : rd_T76 (x.set i ⟨t, (rd_T76 x (i : Int)).f1⟩) (i : Int) = ⟨t, (rd_T76 x (i : Int)).f1⟩ := rd_opt _ i _ (by rw [List.getElem?_set_self (by omega)])
      rw [e1, List.set_set]
    refine Ev.step hst (Ev.bind (mT_ev _ (by omega)) (Ev.bind (mT_ev _ (by omega)) ?_))
    refine ih (i + 1) _ (by rw [List.length_set]; exact hx) (by omega) (by omega) (fun j hj2 => ?_)
    by_cases e : j = i
    · subst e
      rw [List.getElem?_set_self (by omega), mDecl_get a n j hlt]
    · rw [List.getElem?_set_ne (by omega)]
      exact hj j (by omega)
theorem markDecl_f (a : Int) (x : List S76) (hn : x.length ≤ 4194304) (ha : 0 ≤ a ∧ a ≤ 1099511627776) : Ev (fun k => laws_markDeclS.f k x a) (a + 2 * (x.length : Int), mDecl a x.length) := by
  have h := markDecl_l0 a x.length hn ha x.length 0 x rfl (by omega) (by omega) (fun j hj => by omega)
  refine Ev.congr (fun k => ?_) h
  simp [laws_markDeclS.f]
theorem heldDecl_l0 (a : Int) (n : Nat) (hn : n ≤ 4194304) (ha : 0 ≤ a ∧ a ≤ 1099511627776) (d : Nat) : ∀ i : Nat, i ≤ n → n - i = d → Ev (fun k => laws_heldDeclS.l0 k (mDecl a n) (a + 2 * (i : Int)) (i : Int)) (a + 2 * (n : Int)) := by
  have hlen := mDecl_length a n
  induction d with
  | zero =>
    intro i hi hd
    have e : i = n := by omega
    subst e
    refine Ev.step (fun k => ?_) (Ev.now _)
    simp only [laws_heldDeclS.l0]
    rw [if_neg (by omega)]
  | succ d ih =>
    intro i hi hd
    have hlt : i < n := by omega
    have w1 : wrap64 (a + 2 * (i : Int) + 1) = a + 2 * (i : Int) + 1 := w64 (by omega) (by omega)
    have w2 : wrap64 (a + 2 * (i : Int) + 1 + 1) = a + 2 * ((i + 1 : Nat) : Int) := by rw [w64 (by omega) (by omega)]; omega
    have w3 : wrap64 ((i : Int) + 1) = ((i + 1 : Nat) : Int) := by rw [w64 (by omega) (by omega)]; omega
    have hrd := rd_opt (mDecl a n) i _ (mDecl_get a n i hlt)
    refine Ev.step (fun k => by
      simp only [laws_heldDeclS.l0]
      rw [if_pos (by omega), if_pos (by omega), w1, w2, w3, hrd]) (Ev.bind (mT_ev _ (by omega)) (Ev.congr (fun k => by rw [if_pos rfl]) (Ev.bind (mT_ev _ (by omega)) (Ev.congr (fun k => by rw [if_pos rfl]) (ih (i + 1) (by omega) (by omega))))))
theorem heldDecl_f (a : Int) (n : Nat) (hn : n ≤ 4194304) (ha : 0 ≤ a ∧ a ≤ 1099511627776) : Ev (fun k => laws_heldDeclS.f k (mDecl a n) a) (a + 2 * (n : Int)) := by
  refine Ev.congr (fun k => ?_) (heldDecl_l0 a n hn ha n 0 (by omega) (by omega))
  simp [laws_heldDeclS.f]
theorem inner_impl (a b : List S76) (ha : a.length ≤ 1048576) (hb : b.length ≤ 1048576) : Ev (fun k => impl_Inner.f k a b) (a ++ b) := by
  have e0 : rd_L3 [a, b] 0 = a := rfl
  have e1 : rd_L3 [a, b] 1 = b := rfl
  have w0 : wrap64 (0 + (a.length : Int)) = (a.length : Int) := by rw [w64 (by omega) (by omega)]; omega
  have w1 : wrap64 ((a.length : Int) + (b.length : Int)) = (a.length : Int) + (b.length : Int) := w64 (by omega) (by omega)
  have u0 : wrap64 (0 + 1) = 1 := by unfold wrap64; omega
  have u1 : wrap64 (1 + 1) = 2 := by unfold wrap64; omega
  have hl : ((([a, b] : List (List S76)).length : Nat) : Int) = 2 := rfl
  have hg : impl_Decl_90.f [] ((a.length : Int) + (b.length : Int)) = some [] := by unfold impl_Decl_90.f; rw [if_pos (by omega), if_pos (by omega)]
  refine Ev.congr (fun k => by unfold impl_Inner.f impl_Decl_59.f; rfl) (Ev.bind ?_ (Ev.now _))
  rw [hl]
  refine Ev.step (fun k => by simp only [impl_Decl_59.l0]; rw [if_pos (by omega), if_pos (by omega), if_pos (by omega), e0, w0, if_neg (by omega), u0]) ?_
  refine Ev.step (fun k => by simp only [impl_Decl_59.l0]; rw [if_pos (by omega), if_pos (by omega), if_pos (by omega), e1, w1, if_neg (by omega), u1]) ?_
  refine Ev.step (fun k => by simp only [impl_Decl_59.l0]; rw [if_neg (by omega), hg]) ?_
  simp only [Option.bind_some]
  rw [hl]
  refine Ev.step (fun k => by simp only [impl_Decl_59.l1]; rw [if_pos (by omega), if_pos (by omega), if_pos (by omega), e0, if_pos (by simp; omega), u0]) ?_
  refine Ev.step (fun k => by simp only [impl_Decl_59.l1]; rw [if_pos (by omega), if_pos (by omega), if_pos (by omega), e1, if_pos (by simp; omega), u1]) ?_
  exact Ev.step (fun k => by simp only [impl_Decl_59.l1]; rw [if_neg (by omega)]; rfl) (Ev.now _)
theorem inner_spec (a b : List S76) (ha : a.length ≤ 1048576) (hb : b.length ≤ 1048576) : spec_Inner.f a b = some (a ++ b) := by
  unfold spec_Inner.f
  simp only [Option.bind_some, List.nil_append, List.length_nil]
  rw [if_pos (by omega), if_pos (by omega)]
theorem FnExactInner : laws_FnExactInner.Pure := by
  intro l m hw hv
  obtain ⟨r, hr, hrw⟩ := szDeclS_f l hw 1048576 (by omega) (by omega)
  refine Ev.rounds (r := true) ?_
  refine Ev.congr (fun k => by simp only [laws_FnExactInner.f]; rfl) (Ev.bind hr ?_)
  by_cases hn : r < 0
  · exact Ev.congr (fun k => by rw [if_pos hn]) (Ev.now _)
  have hs := sumOf_nonneg wDecl_nonneg l
  have hl : l.length ≤ 1048576 := by have := hrw (by omega); omega
  obtain ⟨r2, hr2, hrw2⟩ := szDeclS_f m hv r (by omega) (by have := hrw (by omega); omega)
  refine Ev.congr (fun k => by rw [if_neg hn]) (Ev.bind hr2 ?_)
  by_cases hn2 : r2 < 0
  · exact Ev.congr (fun k => by rw [if_pos hn2]) (Ev.now _)
  have hs2 := sumOf_nonneg wDecl_nonneg m
  have hm : m.length ≤ 1048576 := by have := hrw2 (by omega); have := hrw (by omega); omega
  have ht := toDeclS_f l hl
  have hu := toDeclS_f m hm
  have hl' : (l.map convDecl).length ≤ 1048576 := by simpa using hl
  have hm' : (m.map convDecl).length ≤ 1048576 := by simpa using hm
  have hlm : (l.map convDecl ++ m.map convDecl).length ≤ 1048576 := by
    have := hrw (by omega)
    have := hrw2 (by omega)
    simp
    omega
  have hi := inner_impl (l.map convDecl) (m.map convDecl) hl' hm'
  have hq := eqDeclS_f _ hlm
  have hml := markDecl_f 1 (l.map convDecl) (by omega) (by omega)
  have hmm := markDecl_f (1 + 2 * ((l.map convDecl).length : Int)) (m.map convDecl) (by omega) (by omega)
  have hmg := markDecl_f 1 (l.map convDecl ++ m.map convDecl) (by omega) (by omega)
  have hh := heldDecl_f 1 (l.map convDecl ++ m.map convDecl).length (by omega) (by omega)
  refine Ev.congr (fun k => by rw [if_neg hn2]) (Ev.bind ht (Ev.bind hu ?_))
  rw [inner_spec _ _ hl' hm']
  simp only [Option.bind_some]
  refine Ev.bind ht (Ev.bind hu (Ev.bind hi (Ev.bind hq ?_)))
  refine Ev.congr (fun k => by rw [if_pos rfl]) (Ev.bind ht (Ev.bind (eqDeclS_f _ hl') ?_))
  refine Ev.congr (fun k => by rw [if_pos rfl]) (Ev.bind hu (Ev.bind (eqDeclS_f _ hm') ?_))
  refine Ev.congr (fun k => by rw [if_pos rfl]) (Ev.bind hml (Ev.bind hmm ?_))
  refine Ev.congr (fun k => by rw [if_neg (by show ¬ (1 + 2 * ((l.map convDecl).length : Int) + 2 * ((m.map convDecl).length : Int)) < 0; omega)]) (Ev.bind hq ?_)
  refine Ev.step (fun k => by simp only [laws_FnExactInner.j0]; rw [if_neg (by simp)]) (Ev.bind hmg (Ev.bind hh ?_))
  refine Ev.congr (fun k => by rw [if_neg (by omega), if_pos rfl]) (Ev.bind ht (Ev.bind hu (Ev.bind hi (Ev.bind hq ?_))))
  refine Ev.congr (fun k => by rw [if_pos rfl]) (Ev.bind hh ?_)
  exact Ev.congr (fun k => by rw [if_neg (by omega), if_pos rfl]) (Ev.now _)

end FnExactInner_
theorem FnExactInner : laws_FnExactInner.Pure := FnExactInner_.FnExactInner
end Go.Proofs.Ytehlkajccnmddaa.Pure
