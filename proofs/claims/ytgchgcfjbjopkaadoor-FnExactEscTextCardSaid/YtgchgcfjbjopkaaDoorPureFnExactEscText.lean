/- The program's EscText (strings.ReplaceAll, four times) and the reference's loop write the same text, at every text.
Conditions: none. -/
import Derived.Test.YtgchgcfjbjopkaaDoorSaidFnExactEscText
import Derived.Lib.ReplaceLaws
import Derived.Lib.Strings
import Derived.Lib.SmallJoins
namespace Go.Proofs.YtgchgcfjbjopkaaDoor.Pure
open Go.RowKit Go.Proofs.YtgchgcfjbjopkaaDoor.PZ Go.Proofs.YtgchgcfjbjopkaaDoorW.PrintWords Go.Proofs.YtgchgcfjbjopkaaDoorW.PrintLast
set_option linter.unusedVariables false
set_option linter.unusedSimpArgs false

namespace FnExactEscText_
theorem w64 {i : Int} (h0 : -9223372036854775808 ≤ i) (h1 : i ≤ 9223372036854775807) : wrap64 i = i := by unfold wrap64; omega
/-! ### Go.Lib.replaceAll, byte by byte -/
section
open Go.Lib (index count replaceK replaceAll)
theorem replaceK_more (old new : List UInt8) (ho : old ≠ []) : ∀ (k : Nat) (s : List UInt8), count s old ≤ k → replaceK old new k s = replaceK old new (count s old) s
  | k, s, h => by
    by_cases hm : index s old = -1
    · rw [Go.Lib.count_miss hm]
      cases k with
      | zero => rfl
      | succ k => simp [replaceK, hm]
    · have hge := Go.Lib.index_ge s old
      obtain ⟨i, hi⟩ : ∃ i : Nat, index s old = i := ⟨(index s old).toNat, by omega⟩
      have hc := Go.Lib.count_hit ho hi
      cases k with
      | zero => omega
      | succ k =>
        rw [hc, Nat.add_comm 1, Go.Lib.replaceK_hit old new k s i hi, Go.Lib.replaceK_hit old new _ s i hi, replaceK_more old new ho k _ (by omega)]
theorem index_cons_miss (c : UInt8) (l old : List UInt8) (h : old.isPrefixOf (c :: l) = false) : index (c :: l) old = if index l old == -1 then -1 else index l old + 1 := by
  simp [index, h]
theorem index_cons_hit (c : UInt8) (l old : List UInt8) (h : old.isPrefixOf (c :: l) = true) : index (c :: l) old = 0 := by
  simp [index, h]
theorem count_cons_miss (c : UInt8) (l old : List UInt8) (ho : old ≠ []) (h : old.isPrefixOf (c :: l) = false) : count (c :: l) old = count l old := by
  have hi := index_cons_miss c l old h
  by_cases hm : index l old = -1
  · rw [Go.Lib.count_miss hm, Go.Lib.count_miss (by rw [hi, hm]; rfl)]
  · have hge := Go.Lib.index_ge l old
    obtain ⟨i, hl⟩ : ∃ i : Nat, index l old = i := ⟨(index l old).toNat, by omega⟩
    have hcl : index (c :: l) old = ((i + 1 : Nat) : Int) := by
      rw [hi, if_neg (by simpa using hm), hl]
      omega
    rw [Go.Lib.count_hit ho hl, Go.Lib.count_hit ho hcl, show i + 1 + old.length = (i + old.length) + 1 by omega, List.drop_succ_cons]
theorem replaceK_cons_miss (c : UInt8) (l old new : List UInt8) (h : old.isPrefixOf (c :: l) = false) : ∀ n, replaceK old new n (c :: l) = c :: replaceK old new n l
  | 0 => rfl
  | n + 1 => by
    have hi := index_cons_miss c l old h
    by_cases hm : index l old = -1
    · have hm' : index (c :: l) old = -1 := by rw [hi, hm]; rfl
      simp [replaceK, hm, hm']
    · have hge := Go.Lib.index_ge l old
      obtain ⟨i, hl⟩ : ∃ i : Nat, index l old = i := ⟨(index l old).toNat, by omega⟩
      have hcl : index (c :: l) old = ((i + 1 : Nat) : Int) := by
        rw [hi, if_neg (by simpa using hm), hl]
        omega
      rw [Go.Lib.replaceK_hit old new n l i hl, Go.Lib.replaceK_hit old new n (c :: l) (i + 1) hcl, show i + 1 + old.length = (i + old.length) + 1 by omega, List.drop_succ_cons, List.take_succ_cons]
      rfl
theorem replaceAll_nil (old new : List UInt8) (ho : old ≠ []) (hn : old ≠ new) : replaceAll [] old new = [] := by
  unfold replaceAll Go.Lib.replace
  rw [if_neg (by simpa using hn)]
  have hm : index [] old = -1 := by
    cases old with
    | nil => exact absurd rfl ho
    | cons a t => rfl
  cases Go.Lib.replaceNum [] old (-1) with
  | zero => rfl
  | succ n => simp [replaceK, hm]
theorem replaceAll_eq (old new : List UInt8) (hn : old ≠ new) (s : List UInt8) : replaceAll s old new = replaceK old new (count s old) s := by
  unfold replaceAll Go.Lib.replace Go.Lib.replaceNum
  rw [if_neg (by simpa using hn), if_pos (.inl (by decide))]
theorem replaceAll_miss (old new : List UInt8) (ho : old ≠ []) (hn : old ≠ new) (c : UInt8) (l : List UInt8) (h : old.isPrefixOf (c :: l) = false) : replaceAll (c :: l) old new = c :: replaceAll l old new := by
  rw [replaceAll_eq old new hn, replaceAll_eq old new hn, count_cons_miss c l old ho h, replaceK_cons_miss c l old new h]
theorem replaceAll_hit (old new : List UInt8) (ho : old ≠ []) (hn : old ≠ new) (c : UInt8) (l : List UInt8) (h : old.isPrefixOf (c :: l) = true) : replaceAll (c :: l) old new = new ++ replaceAll ((c :: l).drop old.length) old new := by
  have hi : index (c :: l) old = ((0 : Nat) : Int) := index_cons_hit c l old h
  rw [replaceAll_eq old new hn, replaceAll_eq old new hn, Go.Lib.count_hit ho hi, Nat.add_comm 1, Go.Lib.replaceK_hit old new _ _ 0 hi]
  simp
/-- One byte, replaced everywhere. -/
theorem replaceAll_one (b : UInt8) (new : List UInt8) (hn : [b] ≠ new) : ∀ s : List UInt8, replaceAll s [b] new = s.flatMap fun c => if c = b then new else [c]
  | [] => replaceAll_nil [b] new (by simp) hn
  | c :: l => by
    rw [List.flatMap_cons, ← replaceAll_one b new hn l]
    by_cases h : c = b
    · subst h
      rw [if_pos rfl, replaceAll_hit [c] new (by simp) hn c l (by simp [List.isPrefixOf])]
      rfl
    · rw [if_neg h, replaceAll_miss [b] new (by simp) hn c l (by simp [List.isPrefixOf, Ne.symm h])]
      rfl
end
theorem bt_data (s : ByteArray) (i : Nat) (h : i < s.size) : bt s (i : Int) = ((s.data.toList[i]'(by rw [← Go.Lib.size_eq]; exact h)).toNat : Int) := by
  unfold bt
  rw [dif_pos (by simpa using h)]
  simp only [Int.toNat_natCast]
  rfl
theorem nb {c d : UInt8} (h : ¬ c = d) {z : Int} (hz : z = (d.toNat : Int)) : ¬ (c.toNat : Int) = z := fun e => h (UInt8.toNat_inj.1 (by omega))
/-- What stands for a byte. -/
def esc (attr : Bool) (c : UInt8) : List UInt8 :=
  if c = 38 then [38, 97, 109, 112, 59] else if c = 60 then [38, 108, 116, 59] else if c = 62 then [38, 103, 116, 59] else if c = 13 then [38, 35, 49, 51, 59]
  else if c = 34 then (if attr = true then [38, 113, 117, 111, 116, 59] else [c]) else if c = 9 then (if attr = true then [38, 35, 57, 59] else [c]) else if c = 10 then (if attr = true then [38, 35, 49, 48, 59] else [c]) else [c]
theorem esc_l (s : ByteArray) (hs : s.size ≤ 1048576) (attr : Bool) (d : Nat) : ∀ (i : Nat) (x : ByteArray), i ≤ s.size → s.size - i = d → x.size ≤ 6 * i →
    ∃ r, Ev (fun k => spec_l3Esc.l0 k s attr x (i : Int)) r ∧ r.data.toList = x.data.toList ++ (s.data.toList.drop i).flatMap (esc attr) := by
  induction d with
  | zero =>
    intro i x hi hd hx
    have e : s.data.toList.drop i = [] := List.drop_eq_nil_of_le (by rw [← Go.Lib.size_eq]; omega)
    refine ⟨x, Ev.step (f := fun _ => some _) (fun k => ?_) (Ev.now _), by rw [e]; simp⟩
    simp only [spec_l3Esc.l0]
    rw [if_neg (by omega)]
  | succ d ih =>
    intro i x hi hd hx
    have hlt : i < s.size := by omega
    have hb := bt_data s i hlt
    have e : s.data.toList.drop i = s.data.toList[i]'(by rw [← Go.Lib.size_eq]; exact hlt) :: s.data.toList.drop (i + 1) := List.drop_eq_getElem_cons (by rw [← Go.Lib.size_eq]; exact hlt)
    have w1 : wrap64 ((i : Int) + 1) = ((i + 1 : Nat) : Int) := by rw [w64 (by omega) (by omega)]; omega
    have hx1 : (s.extract i (i + 1)).size = 1 := by rw [ByteArray.size_extract]; omega
    have hx2 : (s.extract i (i + 1)).data.toList = [s.data.toList[i]'(by rw [← Go.Lib.size_eq]; exact hlt)] := by
      rw [Go.Lib.extract_data, e]
      simp
    rw [e, List.flatMap_cons]
    generalize s.data.toList[i]'(by rw [← Go.Lib.size_eq]; exact hlt) = c at hb hx2
    have hpush : ∀ y : ByteArray, y.data.toList = esc attr c → y.size ≤ 6 → ∃ r, Ev (fun k => spec_l3Esc.l0 k s attr (x ++ y) ((i + 1 : Nat) : Int)) r ∧ r.data.toList = x.data.toList ++ (esc attr c ++ (s.data.toList.drop (i + 1)).flatMap (esc attr)) := by
      intro y hy hys
      obtain ⟨r, r1, r2⟩ := ih (i + 1) (x ++ y) (by omega) (by omega) (by rw [ByteArray.size_append]; omega)
      exact ⟨r, r1, by rw [r2, Go.Joins.data_append, hy, List.append_assoc]⟩
    have hgo : ∀ (y : ByteArray), y.data.toList = esc attr c → y.size ≤ 6 → (∀ k, spec_l3Esc.l0 (k + 1) s attr x (i : Int) = if x.size + y.size ≤ 9223372036854775807 then spec_l3Esc.l0 k s attr (x ++ y) ((i + 1 : Nat) : Int) else none) →
        ∃ r, Ev (fun k => spec_l3Esc.l0 k s attr x (i : Int)) r ∧ r.data.toList = x.data.toList ++ (esc attr c ++ (s.data.toList.drop (i + 1)).flatMap (esc attr)) := by
      intro y hy hys hk
      obtain ⟨r, r1, r2⟩ := hpush y hy hys
      exact ⟨r, Ev.step (fun k => by rw [hk k, if_pos (by omega)]) r1, r2⟩
    by_cases c1 : c = 38
    · subst c1
      refine hgo (⟨#[38, 97, 109, 112, 59]⟩ : ByteArray) rfl (by decide) (fun k => ?_)
      simp only [spec_l3Esc.l0]
      rw [if_pos (by omega), if_pos (by omega), w1, if_pos (by omega), if_pos (by omega), hb, if_pos (by rfl)]
      rfl
    by_cases c2 : c = 60
    · subst c2
      refine hgo (⟨#[38, 108, 116, 59]⟩ : ByteArray) rfl (by decide) (fun k => ?_)
      simp only [spec_l3Esc.l0]
      rw [if_pos (by omega), if_pos (by omega), w1, if_pos (by omega), if_pos (by omega), hb, if_neg (nb (z := 38) c1 rfl), if_pos (by rfl)]
      rfl
    by_cases c3 : c = 62
    · subst c3
      refine hgo (⟨#[38, 103, 116, 59]⟩ : ByteArray) rfl (by decide) (fun k => ?_)
      simp only [spec_l3Esc.l0]
      rw [if_pos (by omega), if_pos (by omega), w1, if_pos (by omega), if_pos (by omega), hb, if_neg (nb (z := 38) c1 rfl), if_neg (nb (z := 60) c2 rfl), if_pos (by rfl)]
      rfl
    by_cases c4 : c = 13
    · subst c4
      refine hgo (⟨#[38, 35, 49, 51, 59]⟩ : ByteArray) rfl (by decide) (fun k => ?_)
      simp only [spec_l3Esc.l0]
      rw [if_pos (by omega), if_pos (by omega), w1, if_pos (by omega), if_pos (by omega), hb, if_neg (nb (z := 38) c1 rfl), if_neg (nb (z := 60) c2 rfl), if_neg (nb (z := 62) c3 rfl), if_pos (by rfl)]
      rfl
    have hhead : ∀ k, spec_l3Esc.l0 (k + 1) s attr x (i : Int) = (if (c.toNat : Int) = 34 then (if attr = true then (if x.size + 6 ≤ 9223372036854775807 then (spec_l3Esc.l0 k s attr (x ++ (⟨#[38, 113, 117, 111, 116, 59]⟩ : ByteArray)) ((i + 1 : Nat) : Int)) else (none)) else (if x.size + (s.extract i (i + 1)).size ≤ 9223372036854775807 then (spec_l3Esc.l0 k s attr (x ++ s.extract i (i + 1)) ((i + 1 : Nat) : Int)) else (none))) else (if (c.toNat : Int) = 9 then (if attr = true then (if x.size + 4 ≤ 9223372036854775807 then (spec_l3Esc.l0 k s attr (x ++ (⟨#[38, 35, 57, 59]⟩ : ByteArray)) ((i + 1 : Nat) : Int)) else (none)) else (if x.size + (s.extract i (i + 1)).size ≤ 9223372036854775807 then (spec_l3Esc.l0 k s attr (x ++ s.extract i (i + 1)) ((i + 1 : Nat) : Int)) else (none))) else (if (c.toNat : Int) = 10 then (if attr = true then (if x.size + 5 ≤ 9223372036854775807 then (spec_l3Esc.l0 k s attr (x ++ (⟨#[38, 35, 49, 48, 59]⟩ : ByteArray)) ((i + 1 : Nat) : Int)) else (none)) else (if x.size + (s.extract i (i + 1)).size ≤ 9223372036854775807 then (spec_l3Esc.l0 k s attr (x ++ s.extract i (i + 1)) ((i + 1 : Nat) : Int)) else (none))) else (if x.size + (s.extract i (i + 1)).size ≤ 9223372036854775807 then (spec_l3Esc.l0 k s attr (x ++ s.extract i (i + 1)) ((i + 1 : Nat) : Int)) else (none))))) := fun k => by
      simp only [spec_l3Esc.l0]
      rw [if_pos (by omega), if_pos (by omega), w1, if_pos (by omega), if_pos (by omega), hb, if_neg (nb (z := 38) c1 rfl), if_neg (nb (z := 60) c2 rfl), if_neg (nb (z := 62) c3 rfl), if_neg (nb (z := 13) c4 rfl)]
      simp only [Int.toNat_natCast]
    have hself : esc attr c = [c] → (∀ k, spec_l3Esc.l0 (k + 1) s attr x (i : Int) = if x.size + (s.extract i (i + 1)).size ≤ 9223372036854775807 then spec_l3Esc.l0 k s attr (x ++ s.extract i (i + 1)) ((i + 1 : Nat) : Int) else none) → ∃ r, Ev (fun k => spec_l3Esc.l0 k s attr x (i : Int)) r ∧ r.data.toList = x.data.toList ++ (esc attr c ++ (s.data.toList.drop (i + 1)).flatMap (esc attr)) :=
      fun h hk => hgo (s.extract i (i + 1)) (by rw [hx2, h]) (by omega) hk
    by_cases c5 : c = 34
    · subst c5
      cases attr with
      | true =>
        refine hgo (⟨#[38, 113, 117, 111, 116, 59]⟩ : ByteArray) rfl (by decide) (fun k => ?_)
        rw [hhead, if_pos (by rfl), if_pos rfl]
        rfl
      | false =>
        refine hself rfl (fun k => ?_)
        rw [hhead, if_pos (by rfl), if_neg (by simp)]
    by_cases c6 : c = 9
    · subst c6
      cases attr with
      | true =>
        refine hgo (⟨#[38, 35, 57, 59]⟩ : ByteArray) rfl (by decide) (fun k => ?_)
        rw [hhead, if_neg (nb (z := 34) c5 rfl), if_pos (by rfl), if_pos rfl]
        rfl
      | false =>
        refine hself rfl (fun k => ?_)
        rw [hhead, if_neg (nb (z := 34) c5 rfl), if_pos (by rfl), if_neg (by simp)]
    by_cases c7 : c = 10
    · subst c7
      cases attr with
      | true =>
        refine hgo (⟨#[38, 35, 49, 48, 59]⟩ : ByteArray) rfl (by decide) (fun k => ?_)
        rw [hhead, if_neg (nb (z := 34) c5 rfl), if_neg (nb (z := 9) c6 rfl), if_pos (by rfl), if_pos rfl]
        rfl
      | false =>
        refine hself rfl (fun k => ?_)
        rw [hhead, if_neg (nb (z := 34) c5 rfl), if_neg (nb (z := 9) c6 rfl), if_pos (by rfl), if_neg (by simp)]
    refine hself (by unfold esc; rw [if_neg c1, if_neg c2, if_neg c3, if_neg c4, if_neg c5, if_neg c6, if_neg c7]) (fun k => ?_)
    rw [hhead, if_neg (nb (z := 34) c5 rfl), if_neg (nb (z := 9) c6 rfl), if_neg (nb (z := 10) c7 rfl)]
theorem specEsc_f (s : ByteArray) (hs : s.size ≤ 1048576) (attr : Bool) : ∃ r, Ev (fun k => spec_l3Esc.f k s attr) r ∧ r.data.toList = s.data.toList.flatMap (esc attr) := by
  obtain ⟨r, r1, r2⟩ := esc_l s hs attr s.size 0 (⟨#[]⟩ : ByteArray) (by omega) (by omega) (by decide)
  exact ⟨r, r1, by rw [r2]; simp⟩
theorem flat_le (e : UInt8 → List UInt8) (h : ∀ c, (e c).length ≤ 6) : ∀ l : List UInt8, (l.flatMap e).length ≤ 6 * l.length
  | [] => by simp
  | c :: l => by
    have := flat_le e h l
    have := h c
    simp only [List.flatMap_cons, List.length_append, List.length_cons]
    omega
def one (b : UInt8) (new : List UInt8) (c : UInt8) : List UInt8 := if c = b then new else [c]
theorem repl_f (t : List UInt8) (b : UInt8) (n : ByteArray) (ht : t.length ≤ 100000000) (hn : n.size ≤ 6) (hne : [b] ≠ n.data.toList) :
    strings_ReplaceAll.f (⟨t.toArray⟩ : ByteArray) (⟨#[b]⟩ : ByteArray) n = some ⟨(t.flatMap (one b n.data.toList)).toArray⟩ := by
  have z1 : (⟨#[b]⟩ : ByteArray).size = 1 := rfl
  have hsz : (⟨t.toArray⟩ : ByteArray).size = t.length := by rw [Go.Lib.size_eq]
  have c1 := Go.Lib.countB_mul_le (⟨#[b]⟩ : ByteArray) (by rw [z1]; omega) _ (⟨t.toArray⟩ : ByteArray) (Nat.le_refl _)
  rw [z1, hsz] at c1
  have c2 : Go.Lib.countB (⟨t.toArray⟩ : ByteArray) (⟨#[b]⟩ : ByteArray) * n.size ≤ t.length * 6 := Nat.mul_le_mul (by omega) hn
  unfold strings_ReplaceAll.f
  rw [z1, hsz, if_pos ⟨by omega, by omega, by omega⟩]
  have e : (⟨#[b]⟩ : ByteArray).data.toList = [b] := rfl
  have e2 : (⟨t.toArray⟩ : ByteArray).data.toList = t := by simp
  rw [e, e2, replaceAll_one b n.data.toList hne]
  rfl
theorem escText_eq (l : List UInt8) : (((l.flatMap (one 38 [38, 97, 109, 112, 59])).flatMap (one 60 [38, 108, 116, 59])).flatMap (one 62 [38, 103, 116, 59])).flatMap (one 13 [38, 35, 49, 51, 59]) = l.flatMap (esc false) := by
  simp only [List.flatMap_assoc]
  congr 1
  funext c
  unfold esc one
  by_cases c1 : c = 38
  · subst c1; rfl
  by_cases c2 : c = 60
  · subst c2; rfl
  by_cases c3 : c = 62
  · subst c3; rfl
  by_cases c4 : c = 13
  · subst c4; rfl
  simp [c1, c2, c3, c4]
theorem escAttr_eq (l : List UInt8) : (((l.flatMap (esc false)).flatMap (one 34 [38, 113, 117, 111, 116, 59])).flatMap (one 9 [38, 35, 57, 59])).flatMap (one 10 [38, 35, 49, 48, 59]) = l.flatMap (esc true) := by
  simp only [List.flatMap_assoc]
  congr 1
  funext c
  unfold esc one
  by_cases c1 : c = 38
  · subst c1; rfl
  by_cases c2 : c = 60
  · subst c2; rfl
  by_cases c3 : c = 62
  · subst c3; rfl
  by_cases c4 : c = 13
  · subst c4; rfl
  by_cases c5 : c = 34
  · subst c5; rfl
  by_cases c6 : c = 9
  · subst c6; rfl
  by_cases c7 : c = 10
  · subst c7; rfl
  simp [c1, c2, c3, c4, c5, c6, c7]
theorem one_le (b : UInt8) (n : List UInt8) (h : n.length ≤ 6) (c : UInt8) : (one b n c).length ≤ 6 := by
  unfold one
  split
  · exact h
  · simp
theorem esc_le (attr : Bool) (c : UInt8) : (esc attr c).length ≤ 6 := by
  unfold esc
  repeat' split
  all_goals simp
theorem implEscText_f (s : ByteArray) (hs : s.size ≤ 1048576) : impl_EscText.f s = some ⟨(s.data.toList.flatMap (esc false)).toArray⟩ := by
  have e0 : s = (⟨s.data.toList.toArray⟩ : ByteArray) := by cases s; simp
  have hl : s.data.toList.length ≤ 1048576 := by rw [← Go.Lib.size_eq]; exact hs
  have h1 := flat_le (one 38 [38, 97, 109, 112, 59]) (one_le _ _ (by simp)) s.data.toList
  have h2 := flat_le (one 60 [38, 108, 116, 59]) (one_le _ _ (by simp)) (s.data.toList.flatMap (one 38 [38, 97, 109, 112, 59]))
  unfold impl_EscText.f
  conv => lhs; rw [e0]
  rw [repl_f _ _ _ (by omega) (by decide) (by decide), Option.bind_some, show (⟨#[38, 97, 109, 112, 59]⟩ : ByteArray).data.toList = [38, 97, 109, 112, 59] from rfl]
  rw [repl_f _ _ _ (by omega) (by decide) (by decide), Option.bind_some, show (⟨#[38, 108, 116, 59]⟩ : ByteArray).data.toList = [38, 108, 116, 59] from rfl]
  have h3 : (((s.data.toList.flatMap (one 38 [38, 97, 109, 112, 59])).flatMap (one 60 [38, 108, 116, 59])).flatMap (one 62 [38, 103, 116, 59])).length ≤ 6 * s.data.toList.length := by
    rw [List.flatMap_assoc, List.flatMap_assoc]
    refine flat_le _ (fun c => ?_) _
    unfold one
    by_cases c1 : c = 38
    · subst c1; decide
    by_cases c2 : c = 60
    · subst c2; decide
    by_cases c3 : c = 62
    · subst c3; decide
    simp [c1, c2, c3]
  rw [repl_f _ _ _ (by omega) (by decide) (by decide), Option.bind_some, show (⟨#[38, 103, 116, 59]⟩ : ByteArray).data.toList = [38, 103, 116, 59] from rfl]
  rw [repl_f _ _ _ (by omega) (by decide) (by decide), Option.bind_some, show (⟨#[38, 35, 49, 51, 59]⟩ : ByteArray).data.toList = [38, 35, 49, 51, 59] from rfl]
  rw [escText_eq]
theorem FnExactEscText : laws_FnExactEscText.Pure := by
  intro s _
  by_cases hs : (s.size : Int) > 1048576
  · exact ⟨0, by simp only [laws_FnExactEscText.f]; rw [if_pos hs]⟩
  obtain ⟨r, h1, h2⟩ := specEsc_f s (by omega) false
  have h3 := implEscText_f s (by omega)
  have he : (⟨(s.data.toList.flatMap (esc false)).toArray⟩ : ByteArray).toList = r.toList := by
    rw [Go.Lib.toList_data, Go.Lib.toList_data, h2]
  have h4 : Ev (fun k => spec_EscText.f k s) r := Ev.congr (fun k => rfl) (Ev.bind h1 (Ev.now _))
  refine Ev.rounds (r := true) ?_
  refine Ev.congr (fun k => by simp only [laws_FnExactEscText.f]; rw [if_neg hs]) ?_
  refine Ev.bind h4 ?_
  exact Ev.congr (fun k => by rw [h3, Option.bind_some, if_pos he]) (Ev.now _)

end FnExactEscText_
theorem FnExactEscText : laws_FnExactEscText.Pure := FnExactEscText_.FnExactEscText
end Go.Proofs.YtgchgcfjbjopkaaDoor.Pure
