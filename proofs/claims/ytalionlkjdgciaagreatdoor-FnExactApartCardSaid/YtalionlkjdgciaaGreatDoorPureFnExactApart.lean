/- The program's Apart (slices.Contains over the sums seen) and the reference's count answer alike at every list of trees; the list reads as it did.
Conditions: none. -/
import Derived.Test.YtalionlkjdgciaaGreatDoorSaidFnExactApart
import Derived.Lib.RuneCountTail
import Derived.Lib.DecodeN
import Derived.Lib.ReplaceLaws
import Derived.Shelf.Unicode.DecodeSlow
import Derived.Lib.Strings
import Derived.WideShapes
import Derived.Lib.IndexMore
import Derived.Lib.SmallJoins
import Derived.Lib.Fold
import Derived.Test.YtalionlkjdgciaaGreatDoorLists
namespace Go.Proofs.YtalionlkjdgciaaGreatDoor.Pure
open Go.RowKit Go.Proofs.YtalionlkjdgciaaGreatDoor.PA Go.Proofs.YtalionlkjdgciaaGreatDoorW.PrintWords Go.Proofs.YtalionlkjdgciaaGreatDoorW.PrintLast Go.Proofs.YtalionlkjdgciaaGreatDoor.Lists
set_option linter.unusedVariables false
set_option linter.unusedSimpArgs false

namespace FnExactApart_
theorem w64 {i : Int} (h0 : -9223372036854775808 ≤ i) (h1 : i ≤ 9223372036854775807) : wrap64 i = i := by unfold wrap64; omega
def inR (n : Int) (p : Int × Int) : Bool := decide (p.1 ≤ n) && decide (n ≤ p.2)
theorem l1In_f (n lo hi : Int) : spec_l1In.f n lo hi = some (inR n (lo, hi)) := by
 unfold spec_l1In.f inR
 by_cases h : n ≥ lo
 ·rw [if_pos h]
  simp [h]
 ·rw [if_neg h]
  have : ¬ lo ≤ n := h
  simp [this]
theorem IsSign_f (n : Int) : spec_IsSign.f n = some (impl_IsSign.l.any (inR n)) := by
 unfold spec_IsSign.f
 simp only [l1In_f, Option.bind_some]
 have e : impl_IsSign.l.any (inR n) = (inR n (9, 10) || (inR n (13, 13) || (inR n (32, 55295) || (inR n (57344, 65533) || (inR n (65536, 1114111) || false))))) := rfl
 rw [e]
 have h1 : inR n (9, 10) = decide (n = 9 ∨ n = 10) := by
  unfold inR
  rw [Bool.eq_iff_iff]
  simp
  omega
 have h2 : inR n (13, 13) = decide (n = 13) := by
  unfold inR
  rw [Bool.eq_iff_iff]
  simp
  omega
 rw [h1, h2]
 by_cases c1 : n = 9
 ·simp [c1]
 by_cases c2 : n = 10
 ·simp [c2]
 by_cases c3 : n = 13
 ·simp [c3]
 rw [if_neg c1, if_neg c2, if_neg c3]
 simp only [c1, c2, c3, or_self, decide_false, Bool.false_or, Bool.or_false]
 cases inR n (32, 55295) <;> cases inR n (57344, 65533) <;> simp
def flat2 (zs : List (Int × Int)) : List Int := zs.flatMap fun p => [p.1, p.2]
theorem flat2_length (zs : List (Int × Int)) : (flat2 zs).length = 2 * zs.length := by
 induction zs with
 | nil => rfl
 | cons p zs ih => simp only [flat2, List.flatMap_cons, List.length_append, List.length_cons, List.length_nil] at ih ⊢; omega
theorem flat2_get (zs : List (Int × Int)) : ∀ (j : Nat) (p : Int × Int), zs[j]? = some p → (flat2 zs)[2 * j]? = some p.1 ∧ (flat2 zs)[2 * j + 1]? = some p.2 := by
 induction zs with
 | nil => intro j p h; simp at h
 | cons q zs ih =>
  intro j p h
  cases j with
  | zero =>
   simp at h
   subst h
   simp [flat2]
  | succ j =>
   have := ih j p (by simpa using h)
   simp only [flat2, List.flatMap_cons] at this ⊢
   rw [List.getElem?_append_right (by simp; omega), List.getElem?_append_right (by simp; omega)]
   have e1 : 2 * (j + 1) - [q.1, q.2].length = 2 * j := by simp; omega
   have e2 : 2 * (j + 1) + 1 - [q.1, q.2].length = 2 * j + 1 := by simp; omega
   rw [e1, e2]
   exact this
theorem ranges_l (n : Int) (zs : List (Int × Int)) (hz : zs.length ≤ 1000) (d : Nat) : ∀ j : Nat, j ≤ zs.length → zs.length - j = d →
  Ev (fun k => spec_l1Ranges.l0 k n (flat2 zs) ((2 * j : Nat) : Int)) ((zs.drop j).any (inR n)) := by
 have hlen := flat2_length zs
 induction d with
 | zero =>
  intro j hj hd
  have e : zs.drop j = [] := List.drop_eq_nil_of_le (by omega)
  rw [e]
  refine Ev.step (fun k => ?_) (Ev.now _)
  simp only [spec_l1Ranges.l0]
  rw [if_neg (by rw [w64 (by omega) (by omega)]; omega)]
  rfl
 | succ d ih =>
  intro j hj hd
  have hlt : j < zs.length := by omega
  obtain ⟨g1, g2⟩ := flat2_get zs j zs[j] (List.getElem?_eq_getElem hlt)
  have r1 : rd (flat2 zs) ((2 * j : Nat) : Int) = zs[j].1 := by simp only [rd, Int.toNat_natCast, List.getD_eq_getElem?_getD, g1, Option.getD_some]
  have r2 : rd (flat2 zs) (((2 * j : Nat) : Int) + 1) = zs[j].2 := by
   have e : (((2 * j : Nat) : Int) + 1).toNat = 2 * j + 1 := by omega
   simp only [rd, e, List.getD_eq_getElem?_getD, g2, Option.getD_some]
  have e : zs.drop j = zs[j] :: zs.drop (j + 1) := List.drop_eq_getElem_cons hlt
  rw [e, List.any_cons]
  have hs : ∀ k, spec_l1Ranges.l0 (k + 1) n (flat2 zs) ((2 * j : Nat) : Int) = if inR n zs[j] = true then some true else spec_l1Ranges.l0 k n (flat2 zs) ((2 * (j + 1) : Nat) : Int) := fun k => by
   simp only [spec_l1Ranges.l0]
   rw [w64 (by omega) (by omega), if_pos (by omega), if_pos (by omega), if_pos (by omega), if_pos (by omega), r1, r2, l1In_f]
   simp only [Option.bind_some]
   rw [w64 (by omega) (by omega)]
   rfl
  cases hq : inR n zs[j] with
  | true =>
   refine Ev.step (fun k => ?_) (Ev.now _)
   rw [hs, hq, if_pos rfl]
   rfl
  | false =>
   refine Ev.step (fun k => ?_) (ih (j + 1) (by omega) (by omega))
   rw [hs, hq, if_neg (by simp)]
theorem ranges_f (n : Int) (zs : List (Int × Int)) (hz : zs.length ≤ 1000) (l : List Int) (hl : l = flat2 zs) : Ev (fun k => spec_l1Ranges.f k n l) (zs.any (inR n)) := by
 subst hl
 exact Ev.congr (fun k => by simp [spec_l1Ranges.f]) (ranges_l n zs hz zs.length 0 (by omega) (by omega))
theorem IsStart_f (n : Int) : Ev (fun k => spec_IsStart.f k n) (impl_IsStart.l.any (inR n)) := by
 refine Ev.congr (g := fun k => spec_IsStart.f k n) (f := fun k => (spec_l1Ranges.f k n (flat2 impl_IsStart.l)).bind fun t => some t) (fun k => ?_) (Ev.bind (ranges_f n impl_IsStart.l (by decide) _ rfl) (Ev.now _))
 rfl
theorem IsPart_f (n : Int) : Ev (fun k => spec_IsPart.f k n) (impl_IsStart.l.any (inR n) || impl_IsPart.l.any (inR n)) := by
 refine Ev.congr (g := fun k => spec_IsPart.f k n) (f := fun k => (spec_IsStart.f k n).bind fun t => if t = true then some true else (spec_l1Ranges.f k n (flat2 impl_IsPart.l)).bind fun t => some t) (fun k => rfl) (Ev.bind (IsStart_f n) ?_)
 cases impl_IsStart.l.any (inR n) with
 | true => exact Ev.congr (fun k => by rw [if_pos rfl]; rfl) (Ev.now _)
 | false => exact Ev.congr (fun k => by rw [if_neg (by simp)]) (Ev.bind (ranges_f n impl_IsPart.l (by decide) _ rfl) (Ev.now _))
theorem bt_lt (s : ByteArray) (i : Int) : 0 ≤ bt s i ∧ bt s i < 256 := by
 unfold bt
 split
 ·have := (s[i.toNat]).toNat_lt
  omega
 ·omega
theorem get_bt (s : ByteArray) (i : Nat) : ((s.get! i).toNat : Int) = bt s (i : Int) := by
 unfold bt
 by_cases h : i < s.size
 ·rw [dif_pos (by simpa using h), Go.Proofs.Utf8W.get!_of_lt s i h]
  simp
 ·rw [dif_neg (by simpa using h)]
  rw [← Go.Lib.getD_get!', List.getD_eq_getElem?_getD, List.getElem?_eq_none (by rw [Array.length_toList]; exact Nat.le_of_not_lt h)]
  rfl
set_option maxRecDepth 100000 in
theorem and31 : ∀ x : Fin 256, Go.bits .and .i64 ((x.val : Nat) : Int) 31 = ((x.val % 32 : Nat) : Int) := by decide
set_option maxRecDepth 100000 in
theorem and15 : ∀ x : Fin 256, Go.bits .and .i64 ((x.val : Nat) : Int) 15 = ((x.val % 16 : Nat) : Int) := by decide
set_option maxRecDepth 100000 in
theorem and7 : ∀ x : Fin 256, Go.bits .and .i64 ((x.val : Nat) : Int) 7 = ((x.val % 8 : Nat) : Int) := by decide
theorem band31 (s : ByteArray) (i : Int) : Go.bits .and .i64 (bt s i) 31 = bt s i % 32 := by
 have h := bt_lt s i
 have := and31 ⟨(bt s i).toNat, by omega⟩
 simp only [Int.toNat_of_nonneg h.1] at this
 rw [this]; omega
theorem band15 (s : ByteArray) (i : Int) : Go.bits .and .i64 (bt s i) 15 = bt s i % 16 := by
 have h := bt_lt s i
 have := and15 ⟨(bt s i).toNat, by omega⟩
 simp only [Int.toNat_of_nonneg h.1] at this
 rw [this]; omega
theorem band7 (s : ByteArray) (i : Int) : Go.bits .and .i64 (bt s i) 7 = bt s i % 8 := by
 have h := bt_lt s i
 have := and7 ⟨(bt s i).toNat, by omega⟩
 simp only [Int.toNat_of_nonneg h.1] at this
 rw [this]; omega
/-- The sign at a place. -/
def sgn (s : ByteArray) (i : Int) : Int × Int × Bool :=
 if i < 0 ∨ (s.size : Int) ≤ i then (0, 0, false)
 else if ((Go.Utf8.decode s i.toNat).1 : Int) = 65533 ∧ ((Go.Utf8.decode s i.toNat).2 : Int) ≤ 1 then (0, 0, false)
 else (((Go.Utf8.decode s i.toNat).1 : Int), i + ((Go.Utf8.decode s i.toNat).2 : Int), true)
theorem dec_le (s : ByteArray) (i : Nat) : (Go.Utf8.decode s i).1 ≤ 1114111 ∧ 1 ≤ (Go.Utf8.decode s i).2 ∧ (Go.Utf8.decode s i).2 ≤ 4 := by
 rw [Go.Lib.decode_at]
 have h0 := (s.get! i).toNat_lt
 unfold Go.Lib.decodeN
 repeat' split
 all_goals (refine ⟨?_, ?_, ?_⟩ <;> simp only <;> omega)
theorem implSignAt_f (s : ByteArray) (i : Int) (hs : s.size ≤ 16777216) : impl_SignAt.f s i = some (sgn s i) := by
 unfold impl_SignAt.f impl_in.f sgn
 rw [w64 (by omega) (by omega)]
 by_cases h0 : i ≥ 0
 ·rw [if_pos h0]
  by_cases h1 : i ≤ (s.size : Int) - 1
  ·have hd := dec_le s i.toNat
   rw [if_neg (by omega : ¬ (i < 0 ∨ (s.size : Int) ≤ i))]
   simp only [h1, decide_true, Option.bind_some, if_true]
   rw [if_pos (by omega : (0 : Int) ≤ i), if_pos (by omega : i ≤ (s.size : Int))]
   have hdg : Go.Lib.decodeGo (s.extract i.toNat s.size) = Go.Utf8.decode s i.toNat := by
    unfold Go.Lib.decodeGo
    rw [Go.Lib.tail_size, if_neg (by omega), Go.Lib.tail_decode]
    rfl
   simp only [utf8_DecodeRuneInString.f, hdg, Option.bind_some]
   generalize hD : Go.Utf8.decode s i.toNat = d at hd ⊢
   rw [w64 (by omega) (by omega), w64 (by omega) (by omega)]
   by_cases c0 : (d.1 : Int) = 65533
   ·rw [if_pos c0]
    by_cases c1 : (d.2 : Int) ≤ 1
    ·rw [if_pos c1, if_pos ⟨c0, c1⟩]
    ·rw [if_neg c1, if_neg (fun h => c1 h.2)]
   ·rw [if_neg c0, if_neg (fun h => c0 h.1)]
  ·rw [if_pos (by omega : i < 0 ∨ (s.size : Int) ≤ i)]
   simp [h1]
 ·rw [if_neg h0, if_pos (by omega : i < 0 ∨ (s.size : Int) ≤ i)]
  rfl
theorem l0_step (k : Nat) (s : ByteArray) (i w lo c j : Int) (hs : s.size ≤ 16777216) (h0 : 0 ≤ i + j) (h1 : i + j < s.size) (hj : j ≤ w) (hj0 : 0 ≤ j) (hw : w ≤ 9) (hc0 : 0 ≤ c) (hc1 : c ≤ 100000000) :
  spec_SignAt.l0 (k + 1) s i w lo c j = if bt s (i + j) < 128 ∨ 191 < bt s (i + j) then some (0, 0, false) else spec_SignAt.l0 k s i w lo (c * 64 + bt s (i + j) - 128) (j + 1) := by
 have hb := bt_lt s (i + j)
 rw [spec_SignAt.l0, if_pos hj, w64 (i := i + j) (by omega) (by omega), if_pos h0, if_pos h1, w64 (i := bt s (i + j)) (by omega) (by omega),
  w64 (i := c * 64) (by omega) (by omega), w64 (i := c * 64 + bt s (i + j)) (by omega) (by omega), w64 (i := c * 64 + bt s (i + j) - 128) (by omega) (by omega), w64 (i := j + 1) (by omega) (by omega)]
 by_cases c0 : bt s (i + j) < 128
 ·rw [if_pos c0, if_pos (.inl c0)]
 ·rw [if_neg c0]
  by_cases c1 : bt s (i + j) > 191
  ·rw [if_pos c1, if_pos (.inr c1)]
  ·rw [if_neg c1, if_neg (by omega)]
theorem l0_end (k : Nat) (s : ByteArray) (i w lo c j : Int) (h0 : 0 ≤ i) (h1 : i ≤ 16777216) (hj : w < j) (hw0 : 0 ≤ w) (hw : w ≤ 9) :
  spec_SignAt.l0 (k + 1) s i w lo c j = some (if c < lo ∨ 1114111 < c ∨ (55296 ≤ c ∧ c ≤ 57343) then (0, 0, false) else (c, i + 1 + w, true)) := by
 rw [spec_SignAt.l0, if_neg (by omega)]
 by_cases c0 : c < lo
 ·rw [if_pos c0, if_pos (.inl c0)]
 rw [if_neg c0]
 by_cases c1 : c > 1114111
 ·rw [if_pos c1, if_pos (.inr (.inl c1))]
 rw [if_neg c1, w64 (i := i + 1) (by omega) (by omega), w64 (i := i + 1 + w) (by omega) (by omega)]
 unfold spec_l1In.f
 by_cases c2 : c ≥ 55296
 ·rw [if_pos c2]
  by_cases c3 : c ≤ 57343
  ·rw [decide_eq_true c3, Option.bind_some, if_pos rfl, if_pos (.inr (.inr ⟨c2, c3⟩))]
  ·rw [decide_eq_false c3, Option.bind_some, if_neg (by decide), if_neg (by omega)]
 ·rw [if_neg c2]
  simp only [Option.bind_some]
  rw [if_neg (by decide), if_neg (by omega)]
set_option maxHeartbeats 4000000 in
theorem specSignAt_f (k : Nat) (s : ByteArray) (i : Int) (hs : s.size ≤ 16777216) : spec_SignAt.f (k + 12) s i = some (sgn s i) := by
 unfold spec_SignAt.f sgn
 by_cases g0 : i < 0
 ·rw [if_pos g0, if_pos (.inl g0), spec_SignAt.j0, if_pos rfl]
 rw [if_neg g0]
 by_cases g1 : i ≥ (s.size : Int)
 ·rw [if_pos (.inr g1), spec_SignAt.j0, if_pos (by simpa using g1)]
 rw [if_neg (by omega : ¬ (i < 0 ∨ (s.size : Int) ≤ i)), spec_SignAt.j0, if_neg (by simpa using g1), if_pos (by omega : 0 ≤ i), if_pos (by omega : i < (s.size : Int))]
 have hb0 := bt_lt s i
 have hb1 := bt_lt s (i + 1)
 have hb2 := bt_lt s (i + 2)
 have hb3 := bt_lt s (i + 3)
 have hi : i = ((i.toNat : Nat) : Int) := by omega
 have e0 := get_bt s i.toNat
 have e1 := get_bt s (i.toNat + 1)
 have e2 := get_bt s (i.toNat + 2)
 have e3 := get_bt s (i.toNat + 3)
 rw [show ((i.toNat : Nat) : Int) = i by omega] at e0
 rw [show ((i.toNat + 1 : Nat) : Int) = i + 1 by omega] at e1
 rw [show ((i.toNat + 2 : Nat) : Int) = i + 2 by omega] at e2
 rw [show ((i.toNat + 3 : Nat) : Int) = i + 3 by omega] at e3
 have hd := Go.Lib.decode_at s i.toNat
 generalize Go.Utf8.decode s i.toNat = d at hd ⊢
 obtain ⟨d1, d2⟩ := d
 generalize s.get! i.toNat = B0 at hd e0
 generalize s.get! (i.toNat + 1) = B1 at hd e1
 generalize s.get! (i.toNat + 2) = B2 at hd e2
 generalize s.get! (i.toNat + 3) = B3 at hd e3
 simp only
 rw [w64 (i := bt s i) (by omega) (by omega), w64 (i := i + 1) (by omega) (by omega)]
 by_cases c0 : bt s i < 128
 ·rw [if_pos c0]
  unfold Go.Lib.decodeN at hd
  rw [if_pos (by omega)] at hd
  obtain ⟨rfl, rfl⟩ := Prod.mk.inj hd
  rw [if_neg (by omega), e0]
  rfl
 rw [if_neg c0]
 by_cases c1 : bt s i ≥ 192
 ·rw [if_pos c1]
  by_cases c2 : bt s i < 224
  ·rw [spec_SignAt.j1, if_pos (by simpa using c2), band31, spec_SignAt.j3, w64 (i := (s.size : Int) - 1) (by omega) (by omega), w64 (i := (s.size : Int) - 1 - 1) (by omega) (by omega)]
   have hE : (if i > (s.size : Int) - 1 - 1 then some (0, 0, false) else spec_SignAt.l0 (k + 9) s i 1 128 (bt s i % 32) 1) = (if i > (s.size : Int) - 2 then some (0, 0, false) else (if bt s (i + 1) < 128 ∨ 191 < bt s (i + 1) then some (0, 0, false) else some (if (bt s i % 32) * 64 + bt s (i + 1) - 128 < 128 ∨ 1114111 < (bt s i % 32) * 64 + bt s (i + 1) - 128 ∨ (55296 ≤ (bt s i % 32) * 64 + bt s (i + 1) - 128 ∧ (bt s i % 32) * 64 + bt s (i + 1) - 128 ≤ 57343) then (0, 0, false) else ((bt s i % 32) * 64 + bt s (i + 1) - 128, i + 1 + 1, true)))) := by
    by_cases t0 : i > (s.size : Int) - 1 - 1
    ·rw [if_pos t0, if_pos (by omega)]
    rw [if_neg t0, if_neg (by omega), l0_step (k + 8) s i 1 128 _ 1 hs (by omega) (by omega) (by omega) (by omega) (by omega) (by omega) (by omega)]
    by_cases t1 : bt s (i + 1) < 128 ∨ 191 < bt s (i + 1)
    ·rw [if_pos t1, if_pos t1]
    rw [if_neg t1, if_neg t1, l0_end (k + 7) s i 1 128 _ _ (by omega) (by omega) (by omega) (by omega) (by omega)]
   rw [hE]
   clear hE
   generalize bt s i = b0 at *
   generalize bt s (i + 1) = b1 at *
   generalize bt s (i + 2) = b2 at *
   generalize bt s (i + 3) = b3 at *
   unfold Go.Lib.decodeN at hd
   repeat' split at hd
   all_goals (simp only [Prod.mk.injEq] at hd; obtain ⟨rfl, rfl⟩ := hd; repeat' split)
   all_goals first | rfl | (exfalso; omega) | (simp only [Option.some.injEq, Prod.mk.injEq]; refine ⟨?_, ?_, ?_⟩ <;> first | omega | trivial | rfl)
  rw [spec_SignAt.j1, if_neg (by simpa using c2)]
  rw [if_pos (by omega : bt s i ≥ 224)]
  by_cases c3 : bt s i < 240
  ·rw [spec_SignAt.j2, if_pos (by simpa using c3), band15, spec_SignAt.j3, w64 (i := (s.size : Int) - 1) (by omega) (by omega), w64 (i := (s.size : Int) - 1 - 2) (by omega) (by omega)]
   have hE : (if i > (s.size : Int) - 1 - 2 then some (0, 0, false) else spec_SignAt.l0 (k + 8) s i 2 2048 (bt s i % 16) 1) = (if i > (s.size : Int) - 3 then some (0, 0, false) else (if bt s (i + 1) < 128 ∨ 191 < bt s (i + 1) then some (0, 0, false) else (if bt s (i + 2) < 128 ∨ 191 < bt s (i + 2) then some (0, 0, false) else some (if ((bt s i % 16) * 64 + bt s (i + 1) - 128) * 64 + bt s (i + 2) - 128 < 2048 ∨ 1114111 < ((bt s i % 16) * 64 + bt s (i + 1) - 128) * 64 + bt s (i + 2) - 128 ∨ (55296 ≤ ((bt s i % 16) * 64 + bt s (i + 1) - 128) * 64 + bt s (i + 2) - 128 ∧ ((bt s i % 16) * 64 + bt s (i + 1) - 128) * 64 + bt s (i + 2) - 128 ≤ 57343) then (0, 0, false) else (((bt s i % 16) * 64 + bt s (i + 1) - 128) * 64 + bt s (i + 2) - 128, i + 1 + 2, true))))) := by
    by_cases t0 : i > (s.size : Int) - 1 - 2
    ·rw [if_pos t0, if_pos (by omega)]
    rw [if_neg t0, if_neg (by omega), l0_step (k + 7) s i 2 2048 _ 1 hs (by omega) (by omega) (by omega) (by omega) (by omega) (by omega) (by omega)]
    by_cases t1 : bt s (i + 1) < 128 ∨ 191 < bt s (i + 1)
    ·rw [if_pos t1, if_pos t1]
    rw [if_neg t1, if_neg t1, show (1 + 1 : Int) = 2 from rfl, l0_step (k + 6) s i 2 2048 _ 2 hs (by omega) (by omega) (by omega) (by omega) (by omega) (by omega) (by omega)]
    by_cases t2 : bt s (i + 2) < 128 ∨ 191 < bt s (i + 2)
    ·rw [if_pos t2, if_pos t2]
    rw [if_neg t2, if_neg t2, l0_end (k + 5) s i 2 2048 _ _ (by omega) (by omega) (by omega) (by omega) (by omega)]
   rw [hE]
   clear hE
   generalize bt s i = b0 at *
   generalize bt s (i + 1) = b1 at *
   generalize bt s (i + 2) = b2 at *
   generalize bt s (i + 3) = b3 at *
   unfold Go.Lib.decodeN at hd
   repeat' split at hd
   all_goals (simp only [Prod.mk.injEq] at hd; obtain ⟨rfl, rfl⟩ := hd; repeat' split)
   all_goals first | rfl | (exfalso; omega) | (simp only [Option.some.injEq, Prod.mk.injEq]; refine ⟨?_, ?_, ?_⟩ <;> first | omega | trivial | rfl)
  rw [spec_SignAt.j2, if_neg (by simpa using c3), if_pos (by omega : bt s i ≥ 240)]
  by_cases c4 : bt s i < 248
  ·rw [if_pos c4, band7, spec_SignAt.j3, w64 (i := (s.size : Int) - 1) (by omega) (by omega), w64 (i := (s.size : Int) - 1 - 3) (by omega) (by omega)]
   have hE : (if i > (s.size : Int) - 1 - 3 then some (0, 0, false) else spec_SignAt.l0 (k + 8) s i 3 65536 (bt s i % 8) 1) = (if i > (s.size : Int) - 4 then some (0, 0, false) else (if bt s (i + 1) < 128 ∨ 191 < bt s (i + 1) then some (0, 0, false) else (if bt s (i + 2) < 128 ∨ 191 < bt s (i + 2) then some (0, 0, false) else (if bt s (i + 3) < 128 ∨ 191 < bt s (i + 3) then some (0, 0, false) else some (if (((bt s i % 8) * 64 + bt s (i + 1) - 128) * 64 + bt s (i + 2) - 128) * 64 + bt s (i + 3) - 128 < 65536 ∨ 1114111 < (((bt s i % 8) * 64 + bt s (i + 1) - 128) * 64 + bt s (i + 2) - 128) * 64 + bt s (i + 3) - 128 ∨ (55296 ≤ (((bt s i % 8) * 64 + bt s (i + 1) - 128) * 64 + bt s (i + 2) - 128) * 64 + bt s (i + 3) - 128 ∧ (((bt s i % 8) * 64 + bt s (i + 1) - 128) * 64 + bt s (i + 2) - 128) * 64 + bt s (i + 3) - 128 ≤ 57343) then (0, 0, false) else ((((bt s i % 8) * 64 + bt s (i + 1) - 128) * 64 + bt s (i + 2) - 128) * 64 + bt s (i + 3) - 128, i + 1 + 3, true)))))) := by
    by_cases t0 : i > (s.size : Int) - 1 - 3
    ·rw [if_pos t0, if_pos (by omega)]
    rw [if_neg t0, if_neg (by omega), l0_step (k + 7) s i 3 65536 _ 1 hs (by omega) (by omega) (by omega) (by omega) (by omega) (by omega) (by omega)]
    by_cases t1 : bt s (i + 1) < 128 ∨ 191 < bt s (i + 1)
    ·rw [if_pos t1, if_pos t1]
    rw [if_neg t1, if_neg t1, show (1 + 1 : Int) = 2 from rfl, l0_step (k + 6) s i 3 65536 _ 2 hs (by omega) (by omega) (by omega) (by omega) (by omega) (by omega) (by omega)]
    by_cases t2 : bt s (i + 2) < 128 ∨ 191 < bt s (i + 2)
    ·rw [if_pos t2, if_pos t2]
    rw [if_neg t2, if_neg t2, show (2 + 1 : Int) = 3 from rfl, l0_step (k + 5) s i 3 65536 _ 3 hs (by omega) (by omega) (by omega) (by omega) (by omega) (by omega) (by omega)]
    by_cases t3 : bt s (i + 3) < 128 ∨ 191 < bt s (i + 3)
    ·rw [if_pos t3, if_pos t3]
    rw [if_neg t3, if_neg t3, l0_end (k + 4) s i 3 65536 _ _ (by omega) (by omega) (by omega) (by omega) (by omega)]
   rw [hE]
   clear hE
   generalize bt s i = b0 at *
   generalize bt s (i + 1) = b1 at *
   generalize bt s (i + 2) = b2 at *
   generalize bt s (i + 3) = b3 at *
   unfold Go.Lib.decodeN at hd
   repeat' split at hd
   all_goals (simp only [Prod.mk.injEq] at hd; obtain ⟨rfl, rfl⟩ := hd; repeat' split)
   all_goals first | rfl | (exfalso; omega) | (simp only [Option.some.injEq, Prod.mk.injEq]; refine ⟨?_, ?_, ?_⟩ <;> first | omega | trivial | rfl)
  rw [if_neg c4]
  unfold Go.Lib.decodeN at hd
  rw [if_neg (by omega), if_neg (by omega), if_neg (by omega), if_neg (by omega)] at hd
  obtain ⟨rfl, rfl⟩ := Prod.mk.inj hd
  rfl
 ·rw [if_neg c1, spec_SignAt.j1, if_neg (by decide), if_neg (by omega), spec_SignAt.j2, if_neg (by decide), if_neg (by omega)]
  unfold Go.Lib.decodeN at hd
  rw [if_neg (by omega), if_neg (by omega), if_neg (by omega), if_neg (by omega)] at hd
  obtain ⟨rfl, rfl⟩ := Prod.mk.inj hd
  rfl
theorem SignAt_ev (s : ByteArray) (i : Int) (hs : s.size ≤ 16777216) : Ev (fun k => spec_SignAt.f k s i) (sgn s i) := ⟨12, fun k hk => by
 obtain ⟨m, rfl⟩ : ∃ m, k = m + 12 := ⟨k - 12, by omega⟩
 exact specSignAt_f m s i hs⟩
theorem sgn_ok (s : ByteArray) (i : Int) (h : (sgn s i).2.2 = true) : 0 ≤ i ∧ i < s.size ∧ i < (sgn s i).2.1 ∧ (sgn s i).2.1 ≤ s.size := by
 revert h
 unfold sgn
 by_cases h0 : i < 0 ∨ (s.size : Int) ≤ i
 ·rw [if_pos h0]; intro h; exact absurd h (by simp)
 rw [if_neg h0]
 have hd := Go.Lib.decode_at s i.toNat
 have hw := dec_le s i.toNat
 generalize Go.Utf8.decode s i.toNat = d at *
 obtain ⟨d1, d2⟩ := d
 by_cases h1 : (d1 : Int) = 65533 ∧ (d2 : Int) ≤ 1
 ·rw [if_pos h1]; intro h; exact absurd h (by simp)
 rw [if_neg h1]
 intro _
 have e : i + (d2 : Int) ≤ s.size := by
  unfold Go.Lib.decodeN at hd
  repeat' split at hd
  all_goals (simp only [Prod.mk.injEq] at hd; obtain ⟨rfl, rfl⟩ := hd; omega)
 simp only at hw
 exact ⟨by omega, by omega, by simp only; omega, e⟩
theorem signs_same (s : ByteArray) (hs : s.size ≤ 600) (d : Nat) : ∀ i : Int, 0 ≤ i → i ≤ s.size → s.size - i.toNat ≤ d → ∃ r, Ev (fun k => spec_l1Signs.l0 k s i) r ∧ Ev (fun k => impl_signsOk.l0 k s i) r := by
 induction d with
 | zero =>
  intro i h0 h1 hd
  refine ⟨true, Ev.step (fun k => ?_) (Ev.now _), Ev.step (fun k => ?_) (Ev.now _)⟩
  ·simp only [spec_l1Signs.l0]
   rw [if_neg (by omega), decide_eq_true (by omega)]
   try rfl
  ·simp only [impl_signsOk.l0]
   rw [if_neg (by omega)]
   try rfl
 | succ d ih =>
  intro i h0 h1 hd
  by_cases hlt : ¬ i < (s.size : Int)
  ·refine ⟨true, Ev.step (fun k => ?_) (Ev.now _), Ev.step (fun k => ?_) (Ev.now _)⟩
   ·simp only [spec_l1Signs.l0]
    rw [if_neg (by omega), decide_eq_true (by omega)]
    try rfl
   ·simp only [impl_signsOk.l0]
    rw [if_neg (by omega)]
    try rfl
  have hlt : i < (s.size : Int) := by omega
  have hS := SignAt_ev s i (by omega)
  have hI := implSignAt_f s i (by omega)
  have hok := sgn_ok s i
  generalize sgn s i = g at *
  have hs1 : ∀ k, spec_l1Signs.l0 (k + 1) s i = (spec_SignAt.f k s i).bind fun bt114 => (if bt114.2.2 = true then ((spec_IsSign.f bt114.1).bind fun t117 => (if t117 = true then (spec_l1Signs.l0 k s bt114.2.1) else (some false))) else (some false)) := fun k => by
   simp only [spec_l1Signs.l0]
   rw [if_pos hlt]
  have hi1 : ∀ k, impl_signsOk.l0 (k + 1) s i = (if g.2.2 = true then (if impl_IsSign.l.any (inR g.1) = true then (impl_signsOk.l0 k s g.2.1) else (some false)) else (some false)) := fun k => by
   simp only [impl_signsOk.l0]
   rw [if_pos hlt, hI]
   try rfl
  by_cases hg : ¬ g.2.2 = true
  ·exact ⟨false, Ev.step hs1 (Ev.bind hS (Ev.congr (fun k => by rw [if_neg hg]) (Ev.now _))), Ev.step hi1 (Ev.congr (fun k => by rw [if_neg hg]) (Ev.now _))⟩
  have hg := Decidable.not_not.1 hg
  obtain ⟨_, _, g1, g2⟩ := hok hg
  cases hq : impl_IsSign.l.any (inR g.1) with
  | false =>
   exact ⟨false, Ev.step hs1 (Ev.bind hS (Ev.congr (fun k => by rw [if_pos hg, IsSign_f, hq]; try rfl) (Ev.now _))), Ev.step hi1 (Ev.congr (fun k => by rw [if_pos hg, hq]; try rfl) (Ev.now _))⟩
  | true =>
   obtain ⟨r, hr1, hr2⟩ := ih g.2.1 (by omega) g2 (by omega)
   exact ⟨r, Ev.step hs1 (Ev.bind hS (Ev.congr (fun k => by rw [if_pos hg, IsSign_f, hq]; try rfl) hr1)), Ev.step hi1 (Ev.congr (fun k => by rw [if_pos hg, hq]; try rfl) hr2)⟩
theorem text_same (s : ByteArray) : ∃ r, Ev (fun k => spec_TextOk.f k s) r ∧ Ev (fun k => impl_TextOk.f k s) r := by
 by_cases h : (s.size : Int) ≤ 600
 ·obtain ⟨r, h1, h2⟩ := signs_same s (by omega) s.size 0 (by omega) (by omega) (by omega)
  refine ⟨r, ?_, ?_⟩
  ·refine Ev.congr (fun k => by simp only [spec_TextOk.f]; rw [if_pos h]; try rfl) (Ev.bind (g := fun k => spec_l1Signs.l0 k s 0) h1 (Ev.now _))
  ·refine Ev.congr (fun k => by simp only [impl_TextOk.f]; rw [if_pos h]; try rfl) (Ev.bind (g := fun k => impl_signsOk.l0 k s 0) h2 (Ev.now _))
 ·exact ⟨false, Ev.congr (fun k => by simp only [spec_TextOk.f]; rw [if_neg h]) (Ev.now _), Ev.congr (fun k => by simp only [impl_TextOk.f]; rw [if_neg h]) (Ev.now _)⟩
theorem implin_f (n lo hi : Int) : impl_in.f n lo hi = some (inR n (lo, hi)) := l1In_f n lo hi
theorem plain_l (s : ByteArray) (hs : s.size ≤ 16777216) (d : Nat) : ∀ i : Int, 0 ≤ i → i ≤ s.size → s.size - i.toNat ≤ d → ∃ r, Ev (fun k => spec_PlainOk.l0 k s i) r ∧ Ev (fun k => impl_PlainOk.l0 k s i) (r && inR s.size (1, 16)) := by
 have hend : ∀ i : Int, ¬ i < (s.size : Int) → ∃ r, Ev (fun k => spec_PlainOk.l0 k s i) r ∧ Ev (fun k => impl_PlainOk.l0 k s i) (r && inR s.size (1, 16)) := by
  intro i h
  refine ⟨true, Ev.step (fun k => ?_) (Ev.now _), Ev.step (fun k => ?_) (Ev.now _)⟩
  ·simp only [spec_PlainOk.l0]
   rw [if_neg h]
   try rfl
  ·simp only [impl_PlainOk.l0]
   rw [if_neg h, implin_f]
   try rfl
 induction d with
 | zero =>
  intro i h0 h1 hd
  exact hend i (by omega)
 | succ d ih =>
  intro i h0 h1 hd
  by_cases hlt : ¬ i < (s.size : Int)
  ·exact hend i hlt
  have hlt : i < (s.size : Int) := by omega
  have hS := SignAt_ev s i (by omega)
  have hI := implSignAt_f s i (by omega)
  have hok := sgn_ok s i
  generalize sgn s i = g at *
  have hs1 : ∀ k, spec_PlainOk.l0 (k + 1) s i = ((spec_SignAt.f k s i).bind fun bt139 => (if bt139.2.2 = true then (if i = 0 then ((spec_IsStart.f k bt139.1).bind fun t142 => (if t142 = true then ((spec_IsPart.f k bt139.1).bind fun t143 => (if t143 = true then (spec_PlainOk.l0 k s bt139.2.1) else (some false))) else (some false))) else ((spec_IsPart.f k bt139.1).bind fun t144 => (if t144 = true then (spec_PlainOk.l0 k s bt139.2.1) else (some false)))) else (some false))) := fun k => by
   simp only [spec_PlainOk.l0]
   rw [if_pos hlt]
  have hi1 : ∀ k, impl_PlainOk.l0 (k + 1) s i = (if g.2.2 = true then (if i = 0 then (if impl_IsStart.l.any (inR g.1) = true then (if (impl_IsStart.l.any (inR g.1) || impl_IsPart.l.any (inR g.1)) = true then (impl_PlainOk.l0 k s g.2.1) else (some false)) else (some false)) else (if (impl_IsStart.l.any (inR g.1) || impl_IsPart.l.any (inR g.1)) = true then (impl_PlainOk.l0 k s g.2.1) else (some false))) else (some false)) := fun k => by
   simp only [impl_PlainOk.l0]
   rw [if_pos hlt, hI]
   try rfl
  have hst := IsStart_f g.1
  have hpt := IsPart_f g.1
  by_cases hg : ¬ g.2.2 = true
  ·exact ⟨false, Ev.step hs1 (Ev.bind hS (Ev.congr (fun k => by rw [if_neg hg]) (Ev.now _))), Ev.step hi1 (Ev.congr (fun k => by rw [if_neg hg]; try rfl) (Ev.now _))⟩
  have hg := Decidable.not_not.1 hg
  obtain ⟨_, _, g1, g2⟩ := hok hg
  obtain ⟨r, hr1, hr2⟩ := ih g.2.1 (by omega) g2 (by omega)
  generalize impl_IsStart.l.any (inR g.1) = a at *
  generalize impl_IsPart.l.any (inR g.1) = b at *
  by_cases hz : i = 0
  ·cases a with
   | false =>
    refine ⟨false, Ev.step hs1 (Ev.bind hS ?_), Ev.step hi1 (Ev.congr (fun k => by rw [if_pos hg, if_pos hz]; try rfl) (Ev.now _))⟩
    exact Ev.congr (fun k => by rw [if_pos hg, if_pos hz]) (Ev.bind hst (Ev.congr (fun k => by rw [if_neg (by simp)]) (Ev.now _)))
   | true =>
    refine ⟨r, Ev.step hs1 (Ev.bind hS ?_), Ev.step hi1 (Ev.congr (fun k => by rw [if_pos hg, if_pos hz]; try rfl) hr2)⟩
    refine Ev.congr (fun k => by rw [if_pos hg, if_pos hz]) (Ev.bind hst ?_)
    refine Ev.congr (fun k => by rw [if_pos rfl]) (Ev.bind hpt ?_)
    exact Ev.congr (fun k => by rw [if_pos (by simp)]) hr1
  ·cases hq : (a || b) with
   | false =>
    rw [hq] at hpt hi1
    refine ⟨false, Ev.step hs1 (Ev.bind hS ?_), Ev.step hi1 (Ev.congr (fun k => by rw [if_pos hg, if_neg hz]; try rfl) (Ev.now _))⟩
    exact Ev.congr (fun k => by rw [if_pos hg, if_neg hz]) (Ev.bind hpt (Ev.congr (fun k => by rw [if_neg (by simp)]) (Ev.now _)))
   | true =>
    rw [hq] at hpt hi1
    refine ⟨r, Ev.step hs1 (Ev.bind hS ?_), Ev.step hi1 (Ev.congr (fun k => by rw [if_pos hg, if_neg hz]; try rfl) hr2)⟩
    exact Ev.congr (fun k => by rw [if_pos hg, if_neg hz]) (Ev.bind hpt (Ev.congr (fun k => by rw [if_pos rfl]) hr1))
theorem plain_same (s : ByteArray) (hs : s.size ≤ 16777216) : ∃ r, Ev (fun k => spec_PlainOk.f k s) r ∧ Ev (fun k => impl_PlainOk.f k s) r := by
 obtain ⟨r, h1, h2⟩ := plain_l s hs s.size 0 (by omega) (by omega) (by omega)
 refine ⟨r && inR s.size (1, 16), ?_, h2⟩
 refine Ev.congr (fun k => by simp only [spec_PlainOk.f]; rw [l1In_f, Option.bind_some]) ?_
 cases inR s.size (1, 16) with
 | false => exact Ev.congr (fun k => by rw [if_neg (by simp)]) (by rw [Bool.and_false]; exact Ev.now _)
 | true => exact Ev.congr (fun k => by rw [if_pos rfl]) (by rw [Bool.and_true]; exact h1)
theorem xml_f (p : ByteArray) : spec_l4Xml.f p = some (Go.Lib.hasPrefix p.data.toList [120, 109, 108]) := by
 unfold spec_l4Xml.f
 rw [Go.Lib.extract_toList, Go.Lib.size_eq p]
 generalize p.data.toList = l
 unfold Go.Lib.hasPrefix
 match l with
 | [] => rfl
 | [a] => simp [List.isPrefixOf]
 | [a, b] => simp [List.isPrefixOf]
 | a :: b :: c :: l =>
  rw [if_pos (by simp; omega), if_pos (by omega), if_pos (by simp; omega)]
  simp only [Option.some.injEq, List.drop_zero, Nat.sub_zero, List.take_succ_cons, List.take_zero]
  rw [Bool.eq_iff_iff]
  simp only [List.isPrefixOf, Bool.and_eq_true, beq_iff_eq, List.cons.injEq, and_true]
  constructor <;> (rintro ⟨h1, h2, h3⟩; exact ⟨h1.symm, h2.symm, h3.symm⟩)
theorem prefix_f (p : ByteArray) : strings_HasPrefix.f p (⟨#[120, 109, 108]⟩ : ByteArray) = some (Go.Lib.hasPrefix p.data.toList [120, 109, 108]) := rfl
theorem decl_same (p u : ByteArray) (hp : p.size ≤ 1048576) : ∃ r, Ev (fun k => spec_DeclOk.f k p u) r ∧ Ev (fun k => impl_DeclOk.f k p u) r := by
 obtain ⟨t, t1, t2⟩ := text_same u
 obtain ⟨q, q1, q2⟩ := plain_same p (by omega)
 have hx := xml_f p
 have hx2 := prefix_f p
 generalize Go.Lib.hasPrefix p.data.toList [120, 109, 108] = x at hx hx2
 have huri : Ev (fun k => impl_uriOk.f k u p) (t && decide ((u.size : Int) ≤ 40) && (!(decide (u.toList = [])) || decide (p.toList = []))) := by
  refine Ev.congr (fun k => by simp only [impl_uriOk.f]; rfl) (Ev.bind t2 ?_)
  cases t with
  | false => exact Ev.congr (fun k => by rw [if_neg (by simp)]; try rfl) (Ev.now _)
  | true =>
   refine Ev.congr (f := fun _ => some _) (fun k => ?_) (Ev.now _)
   rw [if_pos rfl]
   by_cases h1 : (u.size : Int) ≤ 40
   ·rw [if_pos h1, decide_eq_true h1]
    by_cases h2 : u.toList = []
    ·rw [if_pos h2, decide_eq_true h2]
     by_cases h3 : p.toList = []
     ·rw [h3]; rfl
     ·rw [decide_eq_false h3]
      have : (p.toList == []) = false := by simpa using h3
      rw [this]; rfl
    ·rw [if_neg h2, decide_eq_false h2]; rfl
   ·rw [if_neg h1, decide_eq_false h1]; rfl
 by_cases h0 : p.toList = []
 ·refine ⟨t && decide ((u.size : Int) ≤ 40), ?_, ?_⟩
  ·refine Ev.congr (fun k => by simp only [spec_DeclOk.f]; rw [if_pos h0]) (Ev.bind t1 ?_)
   cases t with
   | false => exact Ev.congr (fun k => by rw [if_neg (by simp)]; try rfl) (Ev.now _)
   | true => exact Ev.congr (fun k => by rw [if_pos rfl]; try rfl) (Ev.now _)
  ·refine Ev.congr (fun k => by simp only [impl_DeclOk.f, impl_preOk.f]; rw [if_pos h0, Option.bind_some, if_pos rfl]) (Ev.bind huri ?_)
   refine Ev.congr (f := fun _ => some _) (fun k => ?_) (Ev.now _)
   rw [decide_eq_true h0, Bool.or_true, Bool.and_true]
 ·refine ⟨q && !x && (t && decide ((u.size : Int) ≤ 40) && (!(decide (u.toList = [])) || decide (p.toList = []))), ?_, ?_⟩
  ·refine Ev.congr (fun k => by simp only [spec_DeclOk.f]; rw [if_neg h0]) (Ev.bind q1 ?_)
   cases q with
   | false => exact Ev.congr (fun k => by rw [if_neg (by simp)]; try rfl) (Ev.now _)
   | true =>
    refine Ev.congr (f := fun k => if x = true then some false else if u.toList = [] then some false else (spec_TextOk.f k u).bind fun t171 => if t171 = true then some (decide ((u.size : Int) ≤ 40)) else some false) (fun k => by rw [if_pos rfl, hx]; try rfl) ?_
    cases x with
    | true => exact Ev.congr (fun k => by rw [if_pos rfl]; try rfl) (Ev.now _)
    | false =>
     by_cases h2 : u.toList = []
     ·refine Ev.congr (f := fun _ => some _) (fun k => ?_) (Ev.now _)
      rw [if_neg (by simp), if_pos h2, decide_eq_true h2, decide_eq_false h0]
      simp
     ·refine Ev.congr (fun k => by rw [if_neg (by simp), if_neg h2]) (Ev.bind t1 ?_)
      refine Ev.congr (f := fun _ => some _) (fun k => ?_) (Ev.now _)
      rw [decide_eq_false h2]
      cases t <;> simp
  ·have hpre : Ev (fun k => impl_preOk.f k p) (q && !x) := by
    refine Ev.congr (fun k => by simp only [impl_preOk.f]; rw [if_neg h0, hx2]; try rfl) (Ev.bind q2 ?_)
    refine Ev.congr (f := fun _ => some _) (fun k => ?_) (Ev.now _)
    cases q <;> simp
   refine Ev.congr (fun k => by simp only [impl_DeclOk.f]; rfl) (Ev.bind hpre ?_)
   cases (q && !x) with
   | false => exact Ev.congr (fun k => by rw [if_neg (by simp)]; try rfl) (Ev.now _)
   | true => exact Ev.congr (fun k => by rw [if_pos rfl]; try rfl) (Ev.bind huri (Ev.now _))
theorem rd_LDecl (l : List S106) (i : Nat) (h : i < l.length) : rd_T106 l (i : Int) = l[i] := by simp [rd_T106, List.getD_eq_getElem?_getD, List.getElem?_eq_getElem h]
theorem rd_IDecl (l : List S73) (i : Nat) (h : i < l.length) : rd_T73 l (i : Int) = l[i] := by simp [rd_T73, List.getD_eq_getElem?_getD, List.getElem?_eq_getElem h]
def cDe (x : S106) : S73 := ⟨x.f0, x.f1⟩
theorem eqDecl_f (x : S73) : laws_eqDecl.f x.f0 x.f1 x.f0 x.f1 = some true := by
 unfold laws_eqDecl.f
 simp
def wDecl (x : S106) : Int := (x.f0.size : Int) + (x.f1.size : Int)
theorem wDecl_n (x : S106) : 0 ≤ wDecl x := by unfold wDecl; omega
theorem szDecl_f (x : S106) (left : Int) (hw : WF106 x) (h0 : 0 ≤ left) (h1 : left ≤ 1048576) : ∃ r, laws_szDecl.f x.f0 x.f1 left = some r ∧ (0 ≤ r → r + wDecl x = left) := by
 obtain ⟨h_0, h_1⟩ := hw
 unfold maxLen at h_0 h_1
 unfold laws_szDecl.f wrap64 wDecl
 split
 ·exact ⟨_, rfl, by omega⟩
 split
 ·exact ⟨_, rfl, by omega⟩
 exact ⟨_, rfl, fun _ => by omega⟩
theorem szDeclS_f (l : List S106) (hw : l.length ≤ maxLen ∧ ∀ x ∈ l, WF106 x) (left : Int) (h0 : 0 ≤ left) (h1 : left ≤ 1048576) : ∃ r, Ev (fun k => laws_szDeclS.f k l left) r ∧ (0 ≤ r → r + ((l.length : Int) + sumOf wDecl l) = left) := by
 obtain ⟨hl, hw⟩ := hw
 unfold maxLen at hl
 have e : wrap64 (left - (l.length : Int)) = left - (l.length : Int) := w64 (by omega) (by omega)
 by_cases hn : left - (l.length : Int) < 0
 ·exact ⟨-1, Ev.congr (fun k => by simp only [laws_szDeclS.f]; rw [e, if_pos hn]) (Ev.now _), fun h => by omega⟩
 ·obtain ⟨r, hr, hrw⟩ := size_all (l := l) (w := wDecl) (M := 1048576) (G := fun k left i => laws_szDeclS.l0 k l left i) (H := fun _ left i => laws_szDecl.f (rd_T106 l (i : Int)).f0 (rd_T106 l (i : Int)).f1 left) wDecl_n
   (fun k left i h0 hi => by simp only [laws_szDeclS.l0]; rw [if_pos (by omega), if_pos (by omega), w64 (by omega) (by omega)])
   (fun i hi left h0 h1 => by
    obtain ⟨r, a, b⟩ := szDecl_f l[i] left (hw _ (List.getElem_mem hi)) h0 h1
    exact ⟨r, Ev.congr (fun k => by rw [rd_LDecl l i hi]; exact a) (Ev.now r), b⟩)
   (fun k left h0 => by simp only [laws_szDeclS.l0]; rw [if_neg (by omega)]) (left - (l.length : Int)) (by omega) (by omega)
  exact ⟨r, Ev.congr (fun k => by simp only [laws_szDeclS.f]; rw [e, if_neg hn]) hr, fun h => by have := hrw h; omega⟩
theorem toDeclS_f (l : List S106) (hl : l.length ≤ 1048576) : Ev (fun k => laws_toDeclS.f k l) (l.map cDe) := by
 have h := copy_all (l := l) (f := cDe) (G := fun k x i => laws_toDeclS.l0 k l x i) (H := fun _ i => some (cDe (rd_T106 l (i : Int)))) (List.replicate l.length z73) (by simp)
  (fun k x i hx hi => by
   simp only [laws_toDeclS.l0, laws_toDecl.f, Option.bind_some]
   rw [if_pos (by omega), if_pos (by omega), if_pos (by omega), w64 (by omega) (by omega), Int.toNat_natCast]
   rfl)
  (fun i hi => by rw [rd_LDecl l i hi]; exact Ev.now _) (fun k x hx => by simp only [laws_toDeclS.l0]; rw [if_neg (by omega)])
 refine Ev.congr (fun k => ?_) h
 simp only [laws_toDeclS.f, Int.toNat_natCast]
 rw [if_pos (by omega), if_pos (by omega)]
theorem eqDeclS_f (l : List S73) (hl : l.length ≤ 1048576) : Ev (fun k => laws_eqDeclS.f k l l) true := by
 have h := all_all (n := l.length) (G := fun k i => laws_eqDeclS.l0 k l l i) (H := fun _ i => laws_eqDecl.f (rd_T73 l (i : Int)).f0 (rd_T73 l (i : Int)).f1 (rd_T73 l (i : Int)).f0 (rd_T73 l (i : Int)).f1)
  (fun k i hi => by simp only [laws_eqDeclS.l0]; rw [if_pos (by omega), if_pos (by omega), if_pos (by omega), w64 (by omega) (by omega)])
  (fun i hi => Ev.congr (fun k => eqDecl_f _) (Ev.now true)) (fun k => by simp only [laws_eqDeclS.l0]; rw [if_neg (by omega)])
 refine Ev.congr (fun k => ?_) h
 simp only [laws_eqDeclS.f]
 rw [if_pos trivial]
theorem decls_l (l : List S73) (hl : l.length ≤ 1048576) (hw : ∀ x ∈ l, x.f0.size ≤ 1048576) (d : Nat) : ∀ i : Nat, i ≤ l.length → l.length - i = d →
  ∃ r, Ev (fun k => spec_DeclsOk.l0 k l (i : Int)) r ∧ Ev (fun k => impl_DeclsOk.l0 k l l (l.length : Int) (i : Int)) r := by
 induction d with
 | zero =>
  intro i hi hd
  refine ⟨decide ((l.length : Int) ≤ 4), Ev.step (fun k => ?_) (Ev.now _), Ev.step (fun k => ?_) (Ev.now _)⟩
  ·simp only [spec_DeclsOk.l0]
   rw [if_neg (by omega)]
  ·simp only [impl_DeclsOk.l0]
   rw [if_neg (by omega)]
 | succ d ih =>
  intro i hi hd
  have hlt : i < l.length := by omega
  have hrd := rd_IDecl l i hlt
  have w1 : wrap64 ((i : Int) + 1) = ((i + 1 : Nat) : Int) := by rw [w64 (by omega) (by omega)]; omega
  obtain ⟨q, q1, q2⟩ := decl_same l[i].f0 l[i].f1 (hw _ (List.getElem_mem hlt))
  obtain ⟨r, r1, r2⟩ := ih (i + 1) (by omega) (by omega)
  by_cases h0 : (i : Int) > 0
  ·have w2 : wrap64 ((i : Int) - 1) = (i : Int) - 1 := w64 (by omega) (by omega)
   have hs : ∀ k, spec_DeclsOk.l0 (k + 1) l (i : Int) = (spec_DeclOk.f k l[i].f0 l[i].f1).bind fun t => if t = true then (if Op.bytesLess (rd_T73 l ((i : Int) - 1)).f0.toList l[i].f0.toList = true then spec_DeclsOk.l0 k l ((i + 1 : Nat) : Int) else some false) else some false := fun k => by
    simp only [spec_DeclsOk.l0]
    rw [if_pos (by omega), if_pos (by omega), if_pos h0, w2, if_pos (by omega), if_pos (by omega), hrd, w1]
   have hi' : ∀ k, impl_DeclsOk.l0 (k + 1) l l (l.length : Int) (i : Int) = (impl_DeclOk.f k l[i].f0 l[i].f1).bind fun t => if t = true then (if Op.bytesLess (rd_T73 l ((i : Int) - 1)).f0.toList l[i].f0.toList = true then impl_DeclsOk.l0 k l l (l.length : Int) ((i + 1 : Nat) : Int) else some false) else some false := fun k => by
    simp only [impl_DeclsOk.l0]
    rw [if_pos (by omega), if_pos (by omega), if_pos (by omega), if_pos h0, w2, if_pos (by omega), if_pos (by omega), hrd, w1]
   generalize Op.bytesLess (rd_T73 l ((i : Int) - 1)).f0.toList l[i].f0.toList = b at hs hi'
   cases q with
   | false => exact ⟨false, Ev.step hs (Ev.bind q1 (Ev.congr (fun k => by rw [if_neg (by simp)]) (Ev.now _))), Ev.step hi' (Ev.bind q2 (Ev.congr (fun k => by rw [if_neg (by simp)]) (Ev.now _)))⟩
   | true =>
    cases b with
    | false => exact ⟨false, Ev.step hs (Ev.bind q1 (Ev.congr (fun k => by rw [if_pos rfl, if_neg (by simp)]) (Ev.now _))), Ev.step hi' (Ev.bind q2 (Ev.congr (fun k => by rw [if_pos rfl, if_neg (by simp)]) (Ev.now _)))⟩
    | true => exact ⟨r, Ev.step hs (Ev.bind q1 (Ev.congr (fun k => by rw [if_pos rfl, if_pos rfl]) r1)), Ev.step hi' (Ev.bind q2 (Ev.congr (fun k => by rw [if_pos rfl, if_pos rfl]) r2))⟩
  ·have hs : ∀ k, spec_DeclsOk.l0 (k + 1) l (i : Int) = (spec_DeclOk.f k l[i].f0 l[i].f1).bind fun t => if t = true then spec_DeclsOk.l0 k l ((i + 1 : Nat) : Int) else some false := fun k => by
    simp only [spec_DeclsOk.l0]
    rw [if_pos (by omega), if_pos (by omega), if_neg h0, hrd, w1]
   have hi' : ∀ k, impl_DeclsOk.l0 (k + 1) l l (l.length : Int) (i : Int) = (impl_DeclOk.f k l[i].f0 l[i].f1).bind fun t => if t = true then impl_DeclsOk.l0 k l l (l.length : Int) ((i + 1 : Nat) : Int) else some false := fun k => by
    simp only [impl_DeclsOk.l0]
    rw [if_pos (by omega), if_pos (by omega), if_pos (by omega), if_neg h0, hrd, w1]
   cases q with
   | false => exact ⟨false, Ev.step hs (Ev.bind q1 (Ev.congr (fun k => by rw [if_neg (by simp)]) (Ev.now _))), Ev.step hi' (Ev.bind q2 (Ev.congr (fun k => by rw [if_neg (by simp)]) (Ev.now _)))⟩
   | true => exact ⟨r, Ev.step hs (Ev.bind q1 (Ev.congr (fun k => by rw [if_pos rfl]) r1)), Ev.step hi' (Ev.bind q2 (Ev.congr (fun k => by rw [if_pos rfl]) r2))⟩
theorem decls_same (l : List S73) (hl : l.length ≤ 1048576) (hw : ∀ x ∈ l, x.f0.size ≤ 1048576) : ∃ r, Ev (fun k => spec_DeclsOk.f k l) r ∧ Ev (fun k => impl_DeclsOk.f k l) r := by
 obtain ⟨r, h1, h2⟩ := decls_l l hl hw l.length 0 (by omega) (by omega)
 exact ⟨r, h1, h2⟩
theorem rd_LAttr (l : List S108) (i : Nat) (h : i < l.length) : rd_T108 l (i : Int) = l[i] := by simp [rd_T108, List.getD_eq_getElem?_getD, List.getElem?_eq_getElem h]
theorem rd_IAttr (l : List S68) (i : Nat) (h : i < l.length) : rd_T68 l (i : Int) = l[i] := by simp [rd_T68, List.getD_eq_getElem?_getD, List.getElem?_eq_getElem h]
def cAt (x : S108) : S68 := ⟨x.f0, x.f1, x.f2, x.f3⟩
theorem eqAttr_f (x : S68) : laws_eqAttr.f x.f0 x.f1 x.f2 x.f3 x.f0 x.f1 x.f2 x.f3 = some true := by
 unfold laws_eqAttr.f
 simp
def wAttr (x : S108) : Int := (x.f0.size : Int) + (x.f1.size : Int) + (x.f2.size : Int) + (x.f3.size : Int)
theorem wAttr_n (x : S108) : 0 ≤ wAttr x := by unfold wAttr; omega
theorem szAttr_f (x : S108) (left : Int) (hw : WF108 x) (h0 : 0 ≤ left) (h1 : left ≤ 1048576) : ∃ r, laws_szAttr.f x.f0 x.f1 x.f2 x.f3 left = some r ∧ (0 ≤ r → r + wAttr x = left) := by
 obtain ⟨h_0, h_1, h_2, h_3⟩ := hw
 unfold maxLen at h_0 h_1 h_2 h_3
 unfold laws_szAttr.f wrap64 wAttr
 split
 ·exact ⟨_, rfl, by omega⟩
 split
 ·exact ⟨_, rfl, by omega⟩
 split
 ·exact ⟨_, rfl, by omega⟩
 split
 ·exact ⟨_, rfl, by omega⟩
 exact ⟨_, rfl, fun _ => by omega⟩
theorem szAttrS_f (l : List S108) (hw : l.length ≤ maxLen ∧ ∀ x ∈ l, WF108 x) (left : Int) (h0 : 0 ≤ left) (h1 : left ≤ 1048576) : ∃ r, Ev (fun k => laws_szAttrS.f k l left) r ∧ (0 ≤ r → r + ((l.length : Int) + sumOf wAttr l) = left) := by
 obtain ⟨hl, hw⟩ := hw
 unfold maxLen at hl
 have e : wrap64 (left - (l.length : Int)) = left - (l.length : Int) := w64 (by omega) (by omega)
 by_cases hn : left - (l.length : Int) < 0
 ·exact ⟨-1, Ev.congr (fun k => by simp only [laws_szAttrS.f]; rw [e, if_pos hn]) (Ev.now _), fun h => by omega⟩
 ·obtain ⟨r, hr, hrw⟩ := size_all (l := l) (w := wAttr) (M := 1048576) (G := fun k left i => laws_szAttrS.l0 k l left i) (H := fun _ left i => laws_szAttr.f (rd_T108 l (i : Int)).f0 (rd_T108 l (i : Int)).f1 (rd_T108 l (i : Int)).f2 (rd_T108 l (i : Int)).f3 left) wAttr_n
   (fun k left i h0 hi => by simp only [laws_szAttrS.l0]; rw [if_pos (by omega), if_pos (by omega), w64 (by omega) (by omega)])
   (fun i hi left h0 h1 => by
    obtain ⟨r, a, b⟩ := szAttr_f l[i] left (hw _ (List.getElem_mem hi)) h0 h1
    exact ⟨r, Ev.congr (fun k => by rw [rd_LAttr l i hi]; exact a) (Ev.now r), b⟩)
   (fun k left h0 => by simp only [laws_szAttrS.l0]; rw [if_neg (by omega)]) (left - (l.length : Int)) (by omega) (by omega)
  exact ⟨r, Ev.congr (fun k => by simp only [laws_szAttrS.f]; rw [e, if_neg hn]) hr, fun h => by have := hrw h; omega⟩
theorem toAttrS_f (l : List S108) (hl : l.length ≤ 1048576) : Ev (fun k => laws_toAttrS.f k l) (l.map cAt) := by
 have h := copy_all (l := l) (f := cAt) (G := fun k x i => laws_toAttrS.l0 k l x i) (H := fun _ i => some (cAt (rd_T108 l (i : Int)))) (List.replicate l.length z68) (by simp)
  (fun k x i hx hi => by
   simp only [laws_toAttrS.l0, laws_toAttr.f, Option.bind_some]
   rw [if_pos (by omega), if_pos (by omega), if_pos (by omega), w64 (by omega) (by omega), Int.toNat_natCast]
   rfl)
  (fun i hi => by rw [rd_LAttr l i hi]; exact Ev.now _) (fun k x hx => by simp only [laws_toAttrS.l0]; rw [if_neg (by omega)])
 refine Ev.congr (fun k => ?_) h
 simp only [laws_toAttrS.f, Int.toNat_natCast]
 rw [if_pos (by omega), if_pos (by omega)]
theorem eqAttrS_f (l : List S68) (hl : l.length ≤ 1048576) : Ev (fun k => laws_eqAttrS.f k l l) true := by
 have h := all_all (n := l.length) (G := fun k i => laws_eqAttrS.l0 k l l i) (H := fun _ i => laws_eqAttr.f (rd_T68 l (i : Int)).f0 (rd_T68 l (i : Int)).f1 (rd_T68 l (i : Int)).f2 (rd_T68 l (i : Int)).f3 (rd_T68 l (i : Int)).f0 (rd_T68 l (i : Int)).f1 (rd_T68 l (i : Int)).f2 (rd_T68 l (i : Int)).f3)
  (fun k i hi => by simp only [laws_eqAttrS.l0]; rw [if_pos (by omega), if_pos (by omega), if_pos (by omega), w64 (by omega) (by omega)])
  (fun i hi => Ev.congr (fun k => eqAttr_f _) (Ev.now true)) (fun k => by simp only [laws_eqAttrS.l0]; rw [if_neg (by omega)])
 refine Ev.congr (fun k => ?_) h
 simp only [laws_eqAttrS.f]
 rw [if_pos trivial]
theorem rd_LNode (l : List S47) (i : Nat) (h : i < l.length) : rd_T47 l (i : Int) = l[i] := by simp [rd_T47, List.getD_eq_getElem?_getD, List.getElem?_eq_getElem h]
theorem rd_INode (l : List S28) (i : Nat) (h : i < l.length) : rd_T28 l (i : Int) = l[i] := by simp [rd_T28, List.getD_eq_getElem?_getD, List.getElem?_eq_getElem h]
theorem kidL (x y : S47) (h : y ∈ x.f6) : SizeOf.sizeOf y < SizeOf.sizeOf x := by
 have := List.sizeOf_lt_of_mem h
 cases x
 simp at this ⊢
 omega
theorem kidI (x y : S28) (h : y ∈ x.f6) : SizeOf.sizeOf y < SizeOf.sizeOf x := by
 have := List.sizeOf_lt_of_mem h
 cases x
 simp at this ⊢
 omega
theorem indL {P : S47 → Prop} (h : ∀ x, (∀ y ∈ x.f6, P y) → P x) (x : S47) : P x := by
 have : ∀ n (x : S47), SizeOf.sizeOf x < n → P x := by
  intro n
  induction n with
  | zero => intro x hx; omega
  | succ n ih => intro x hx; exact h x (fun y hy => ih y (by have := kidL x y hy; omega))
 exact this _ x (Nat.lt_succ_self _)
theorem indI {P : S28 → Prop} (h : ∀ x, (∀ y ∈ x.f6, P y) → P x) (x : S28) : P x := by
 have : ∀ n (x : S28), SizeOf.sizeOf x < n → P x := by
  intro n
  induction n with
  | zero => intro x hx; omega
  | succ n ih => intro x hx; exact h x (fun y hy => ih y (by have := kidI x y hy; omega))
 exact this _ x (Nat.lt_succ_self _)
mutual
def wNode : S47 → Int
 | ⟨_, a, b, c, ds, ats, ks, t⟩ => (a.size : Int) + (b.size : Int) + (c.size : Int) + ((ds.length : Int) + sumOf wDecl ds) + ((ats.length : Int) + sumOf wAttr ats) + ((ks.length : Int) + wNodes ks) + (t.size : Int)
def wNodes : List S47 → Int
 | [] => 0
 | x :: xs => wNode x + wNodes xs
end
theorem wNodes_eq (l : List S47) : wNodes l = sumOf wNode l := by
 induction l with
 | nil => rfl
 | cons x l ih => rw [sumOf_cons, ← ih]; rfl
theorem wNode_eq (x : S47) : wNode x = (x.f1.size : Int) + (x.f2.size : Int) + (x.f3.size : Int) + ((x.f4.length : Int) + sumOf wDecl x.f4) + ((x.f5.length : Int) + sumOf wAttr x.f5) + ((x.f6.length : Int) + sumOf wNode x.f6) + (x.f7.size : Int) := by
 cases x
 rw [wNode, wNodes_eq]
theorem sum_nonneg_of {α : Type} {w : α → Int} {l : List α} (h : ∀ x ∈ l, 0 ≤ w x) : 0 ≤ sumOf w l := by
 induction l with
 | nil => exact Int.le_refl _
 | cons z m ihm => rw [sumOf_cons]; have := h z (List.mem_cons_self ..); have := ihm (fun x hx => h x (List.mem_cons_of_mem _ hx)); omega
theorem wNode_n (x : S47) : 0 ≤ wNode x := by
 induction x using indL with
 | h x ih =>
  rw [wNode_eq]
  have := sumOf_nonneg wDecl_n x.f4
  have := sumOf_nonneg wAttr_n x.f5
  have := sum_nonneg_of ih
  omega
theorem wNode_bounds (x : S47) : (x.f4.length : Int) ≤ wNode x ∧ (x.f5.length : Int) ≤ wNode x ∧ (x.f6.length : Int) ≤ wNode x ∧ sumOf wNode x.f6 ≤ wNode x ∧ ∀ y ∈ x.f6, wNode y ≤ wNode x := by
 rw [wNode_eq]
 have := sumOf_nonneg wDecl_n x.f4
 have := sumOf_nonneg wAttr_n x.f5
 have := sumOf_nonneg wNode_n x.f6
 refine ⟨by omega, by omega, by omega, by omega, fun y hy => ?_⟩
 have := sumOf_mem wNode_n hy
 omega
mutual
def cNo : S47 → S28
 | ⟨k, a, b, c, ds, ats, ks, t⟩ => ⟨k, a, b, c, ds.map cDe, ats.map cAt, cNos ks, t⟩
def cNos : List S47 → List S28
 | [] => []
 | x :: xs => cNo x :: cNos xs
end
theorem convNodes_eq (l : List S47) : cNos l = l.map cNo := by
 induction l with
 | nil => rfl
 | cons x l ih => rw [List.map_cons, ← ih]; rfl
theorem convNode_eq (x : S47) : cNo x = ⟨x.f0, x.f1, x.f2, x.f3, x.f4.map cDe, x.f5.map cAt, x.f6.map cNo, x.f7⟩ := by
 cases x
 rw [cNo, convNodes_eq]
mutual
def vNode : S28 → Int
 | ⟨_, _, _, _, ds, ats, ks, _⟩ => (ds.length : Int) + (ats.length : Int) + ((ks.length : Int) + vNodes ks)
def vNodes : List S28 → Int
 | [] => 0
 | x :: xs => vNode x + vNodes xs
end
theorem vNodes_eq (l : List S28) : vNodes l = sumOf vNode l := by
 induction l with
 | nil => rfl
 | cons x l ih => rw [sumOf_cons, ← ih]; rfl
theorem vNode_eq (x : S28) : vNode x = (x.f4.length : Int) + (x.f5.length : Int) + ((x.f6.length : Int) + sumOf vNode x.f6) := by
 cases x
 rw [vNode, vNodes_eq]
theorem vNode_n (x : S28) : 0 ≤ vNode x := by
 induction x using indI with
 | h x ih =>
  rw [vNode_eq]
  have := sum_nonneg_of ih
  omega
theorem vNode_bounds (x : S28) : (x.f4.length : Int) ≤ vNode x ∧ (x.f5.length : Int) ≤ vNode x ∧ (x.f6.length : Int) ≤ vNode x ∧ sumOf vNode x.f6 ≤ vNode x ∧ ∀ y ∈ x.f6, vNode y ≤ vNode x := by
 rw [vNode_eq]
 have := sumOf_nonneg vNode_n x.f6
 refine ⟨by omega, by omega, by omega, by omega, fun y hy => ?_⟩
 have := sumOf_mem vNode_n hy
 omega
theorem sumOf_map_le {α β : Type} {f : α → β} {v : β → Int} {w : α → Int} {l : List α} (h : ∀ x ∈ l, v (f x) ≤ w x) : sumOf v (l.map f) ≤ sumOf w l := by
 induction l with
 | nil => exact Int.le_refl _
 | cons z m ihm => rw [List.map_cons, sumOf_cons, sumOf_cons]; have := h z (List.mem_cons_self ..); have := ihm (fun x hx => h x (List.mem_cons_of_mem _ hx)); omega
theorem vNode_conv (x : S47) : vNode (cNo x) ≤ wNode x := by
 induction x using indL with
 | h x ih =>
  rw [wNode_eq, convNode_eq, vNode_eq]
  have := sumOf_nonneg wDecl_n x.f4
  have := sumOf_nonneg wAttr_n x.f5
  have := sumOf_map_le ih
  simp only [List.length_map]
  omega
theorem szNodeS_of (l : List S47) (hl : l.length ≤ maxLen) (hx : ∀ x ∈ l, ∀ left, 0 ≤ left → left ≤ 1048576 → ∃ r, Ev (fun k => laws_szNode.f k x.f0 x.f1 x.f2 x.f3 x.f4 x.f5 x.f6 x.f7 left) r ∧ (0 ≤ r → r + wNode x = left)) (left : Int) (h0 : 0 ≤ left) (h1 : left ≤ 1048576) :
  ∃ r, Ev (fun k => laws_szNodeS.f k l left) r ∧ (0 ≤ r → r + ((l.length : Int) + sumOf wNode l) = left) := by
 unfold maxLen at hl
 have e : wrap64 (left - (l.length : Int)) = left - (l.length : Int) := w64 (by omega) (by omega)
 by_cases hn : left - (l.length : Int) < 0
 ·exact ⟨-1, Ev.step (fun k => by simp only [laws_szNodeS.f]; rw [e, if_pos hn]) (Ev.now _), fun h => by omega⟩
 ·obtain ⟨r, hr, hrw⟩ := size_all (l := l) (w := wNode) (M := 1048576) (G := fun k left i => laws_szNodeS.l0 k l left i) (H := fun k left i => laws_szNode.f k (rd_T47 l (i : Int)).f0 (rd_T47 l (i : Int)).f1 (rd_T47 l (i : Int)).f2 (rd_T47 l (i : Int)).f3 (rd_T47 l (i : Int)).f4 (rd_T47 l (i : Int)).f5 (rd_T47 l (i : Int)).f6 (rd_T47 l (i : Int)).f7 left) wNode_n
   (fun k left i h0 hi => by simp only [laws_szNodeS.l0]; rw [if_pos (by omega), if_pos (by omega), w64 (by omega) (by omega)]; rfl)
   (fun i hi left h0 h1 => by
    obtain ⟨r, a, b⟩ := hx l[i] (List.getElem_mem hi) left h0 h1
    exact ⟨r, Ev.congr (fun k => by rw [rd_LNode l i hi]) a, b⟩)
   (fun k left h0 => by simp only [laws_szNodeS.l0]; rw [if_neg (by omega)]) (left - (l.length : Int)) (by omega) (by omega)
  exact ⟨r, Ev.step (fun k => by simp only [laws_szNodeS.f]; rw [e, if_neg hn]) hr, fun h => by have := hrw h; omega⟩
theorem szNode_f (x : S47) : WF47 x → ∀ left, 0 ≤ left → left ≤ 1048576 → ∃ r, Ev (fun k => laws_szNode.f k x.f0 x.f1 x.f2 x.f3 x.f4 x.f5 x.f6 x.f7 left) r ∧ (0 ≤ r → r + wNode x = left) := by
 induction x using indL with
 | h x ih =>
  intro hw left h0 h1
  obtain ⟨_, s0, s1, s2, s3, s4, s5, g6, s6, s7⟩ := hw
  unfold maxLen at s1 s2 s3 s7
  have nd := sumOf_nonneg wDecl_n x.f4
  have na := sumOf_nonneg wAttr_n x.f5
  have nk := sumOf_nonneg wNode_n x.f6
  rw [wNode_eq]
  have e1 : wrap64 (left - (x.f1.size : Int)) = left - (x.f1.size : Int) := w64 (by omega) (by omega)
  by_cases n1 : left - (x.f1.size : Int) < 0
  ·exact ⟨-1, Ev.congr (fun k => by simp only [laws_szNode.f, laws_szNode.F]; rw [e1, if_pos n1]) (Ev.now _), fun h => by omega⟩
  have e2 : wrap64 (left - (x.f1.size : Int) - (x.f2.size : Int)) = left - (x.f1.size : Int) - (x.f2.size : Int) := w64 (by omega) (by omega)
  by_cases n2 : left - (x.f1.size : Int) - (x.f2.size : Int) < 0
  ·exact ⟨-1, Ev.congr (fun k => by simp only [laws_szNode.f, laws_szNode.F]; rw [e1, if_neg n1, e2, if_pos n2]) (Ev.now _), fun h => by omega⟩
  have e3 : wrap64 (left - (x.f1.size : Int) - (x.f2.size : Int) - (x.f3.size : Int)) = left - (x.f1.size : Int) - (x.f2.size : Int) - (x.f3.size : Int) := w64 (by omega) (by omega)
  by_cases n3 : left - (x.f1.size : Int) - (x.f2.size : Int) - (x.f3.size : Int) < 0
  ·exact ⟨-1, Ev.congr (fun k => by simp only [laws_szNode.f, laws_szNode.F]; rw [e1, if_neg n1, e2, if_neg n2, e3, if_pos n3]) (Ev.now _), fun h => by omega⟩
  have hd : ∀ (r : Int) (g : Nat → Option Int), Ev (fun k => (laws_szDeclS.f k x.f4 (left - (x.f1.size : Int) - (x.f2.size : Int) - (x.f3.size : Int))).bind fun t108 => (if t108 < 0 then (some (-1)) else ((laws_szAttrS.f k x.f5 t108).bind fun t109 => (if t109 < 0 then (some (-1)) else ((laws_szNodeS.f k x.f6 t109).bind fun t110 => (if t110 < 0 then (some (-1)) else (if (wrap64 (t110 - (x.f7.size : Int))) < 0 then (some (-1)) else (some (wrap64 (t110 - (x.f7.size : Int))))))))))) r → Ev (fun k => laws_szNode.f k x.f0 x.f1 x.f2 x.f3 x.f4 x.f5 x.f6 x.f7 left) r := fun r g h =>
   Ev.congr (fun k => by simp only [laws_szNode.f, laws_szNode.F]; rw [e1, if_neg n1, e2, if_neg n2, e3, if_neg n3]) h
  obtain ⟨r4, hr4, hw4⟩ := szDeclS_f x.f4 s4 (left - (x.f1.size : Int) - (x.f2.size : Int) - (x.f3.size : Int)) (by omega) (by omega)
  by_cases n4 : r4 < 0
  ·exact ⟨-1, hd _ (fun _ => none) (Ev.bind hr4 (Ev.congr (fun k => by rw [if_pos n4]) (Ev.now _))), fun h => by omega⟩
  have w4 := hw4 (by omega)
  obtain ⟨r5, hr5, hw5⟩ := szAttrS_f x.f5 s5 r4 (by omega) (by omega)
  by_cases n5 : r5 < 0
  ·exact ⟨-1, hd _ (fun _ => none) (Ev.bind hr4 (Ev.congr (fun k => by rw [if_neg n4]) (Ev.bind hr5 (Ev.congr (fun k => by rw [if_pos n5]) (Ev.now _))))), fun h => by omega⟩
  have w5 := hw5 (by omega)
  obtain ⟨r6, hr6, hw6⟩ := szNodeS_of x.f6 g6 (fun y hy => ih y hy (s6 y hy)) r5 (by omega) (by omega)
  by_cases n6 : r6 < 0
  ·exact ⟨-1, hd _ (fun _ => none) (Ev.bind hr4 (Ev.congr (fun k => by rw [if_neg n4]) (Ev.bind hr5 (Ev.congr (fun k => by rw [if_neg n5]) (Ev.bind hr6 (Ev.congr (fun k => by rw [if_pos n6]) (Ev.now _))))))), fun h => by omega⟩
  have w6 := hw6 (by omega)
  have e7 : wrap64 (r6 - (x.f7.size : Int)) = r6 - (x.f7.size : Int) := w64 (by omega) (by omega)
  by_cases n7 : r6 - (x.f7.size : Int) < 0
  ·exact ⟨-1, hd _ (fun _ => none) (Ev.bind hr4 (Ev.congr (fun k => by rw [if_neg n4]) (Ev.bind hr5 (Ev.congr (fun k => by rw [if_neg n5]) (Ev.bind hr6 (Ev.congr (fun k => by rw [if_neg n6, e7, if_pos n7]) (Ev.now _))))))), fun h => by omega⟩
  ·exact ⟨r6 - (x.f7.size : Int), hd _ (fun _ => none) (Ev.bind hr4 (Ev.congr (fun k => by rw [if_neg n4]) (Ev.bind hr5 (Ev.congr (fun k => by rw [if_neg n5]) (Ev.bind hr6 (Ev.congr (fun k => by rw [if_neg n6, e7, if_neg n7]) (Ev.now _))))))), fun h => by omega⟩
theorem szNodeS_f (l : List S47) (hl : l.length ≤ maxLen ∧ ∀ x ∈ l, WF47 x) (left : Int) (h0 : 0 ≤ left) (h1 : left ≤ 1048576) :
  ∃ r, Ev (fun k => laws_szNodeS.f k l left) r ∧ (0 ≤ r → r + ((l.length : Int) + sumOf wNode l) = left) :=
 szNodeS_of l hl.1 (fun x hx => szNode_f x (hl.2 x hx)) left h0 h1
theorem toNodeS_of (l : List S47) (hl : l.length ≤ 1048576) (hx : ∀ x ∈ l, Ev (fun k => laws_toNode.f k x.f0 x.f1 x.f2 x.f3 x.f4 x.f5 x.f6 x.f7) (x.f0, x.f1, x.f2, x.f3, x.f4.map cDe, x.f5.map cAt, x.f6.map cNo, x.f7)) : Ev (fun k => laws_toNodeS.f k l) (l.map cNo) := by
 have h := copy_all (l := l) (f := cNo) (G := fun k x i => laws_toNodeS.l0 k l x i) (H := fun k i => (laws_toNode.f k (rd_T47 l (i : Int)).f0 (rd_T47 l (i : Int)).f1 (rd_T47 l (i : Int)).f2 (rd_T47 l (i : Int)).f3 (rd_T47 l (i : Int)).f4 (rd_T47 l (i : Int)).f5 (rd_T47 l (i : Int)).f6 (rd_T47 l (i : Int)).f7).bind fun q => some (⟨q.1, q.2.1, q.2.2.1, q.2.2.2.1, q.2.2.2.2.1, q.2.2.2.2.2.1, q.2.2.2.2.2.2.1, q.2.2.2.2.2.2.2⟩ : S28)) (List.replicate l.length z28) (by simp)
  (fun k x i hx hi => by
   simp only [laws_toNodeS.l0]
   rw [if_pos (by omega), if_pos (by omega), w64 (by omega) (by omega), Int.toNat_natCast, Option.bind_assoc]
   simp only [Option.bind_some]
   simp only [show (i : Int) < (x.length : Int) from by omega, if_true]
   rfl)
  (fun i hi => by
   rw [rd_LNode l i hi]
   refine Ev.bind (hx l[i] (List.getElem_mem hi)) ?_
   rw [convNode_eq]
   exact Ev.now _) (fun k x hx => by simp only [laws_toNodeS.l0]; rw [if_neg (by omega)])
 refine Ev.step (fun k => ?_) h
 simp only [laws_toNodeS.f, Int.toNat_natCast]
 rw [if_pos (by omega), if_pos (by omega)]
theorem toNode_f (x : S47) : wNode x ≤ 1048576 → Ev (fun k => laws_toNode.f k x.f0 x.f1 x.f2 x.f3 x.f4 x.f5 x.f6 x.f7) (x.f0, x.f1, x.f2, x.f3, x.f4.map cDe, x.f5.map cAt, x.f6.map cNo, x.f7) := by
 induction x using indL with
 | h x ih =>
  intro hw
  obtain ⟨b4, b5, b6, _, bk⟩ := wNode_bounds x
  refine Ev.congr (g := fun k => laws_toNode.f k x.f0 x.f1 x.f2 x.f3 x.f4 x.f5 x.f6 x.f7) (f := fun k => (laws_toDeclS.f k x.f4).bind fun d => (laws_toAttrS.f k x.f5).bind fun a => (laws_toNodeS.f k x.f6).bind fun n => some (x.f0, x.f1, x.f2, x.f3, d, a, n, x.f7)) (fun k => rfl) ?_
  refine Ev.bind (toDeclS_f x.f4 (by omega)) (Ev.bind (toAttrS_f x.f5 (by omega)) (Ev.bind (toNodeS_of x.f6 (by omega) (fun y hy => ih y hy (by have := bk y hy; omega))) (Ev.now _)))
theorem toNodeS_f (l : List S47) (hl : l.length ≤ 1048576) (hw : ∀ x ∈ l, wNode x ≤ 1048576) : Ev (fun k => laws_toNodeS.f k l) (l.map cNo) :=
 toNodeS_of l hl (fun x hx => toNode_f x (hw x hx))
theorem eqNodeS_of (l : List S28) (hl : l.length ≤ 1048576) (hx : ∀ x ∈ l, Ev (fun k => laws_eqNode.f k x.f0 x.f1 x.f2 x.f3 x.f4 x.f5 x.f6 x.f7 x.f0 x.f1 x.f2 x.f3 x.f4 x.f5 x.f6 x.f7) true) : Ev (fun k => laws_eqNodeS.f k l l) true := by
 have h := all_all (n := l.length) (G := fun k i => laws_eqNodeS.l0 k l l i) (H := fun k i => laws_eqNode.f k (rd_T28 l (i : Int)).f0 (rd_T28 l (i : Int)).f1 (rd_T28 l (i : Int)).f2 (rd_T28 l (i : Int)).f3 (rd_T28 l (i : Int)).f4 (rd_T28 l (i : Int)).f5 (rd_T28 l (i : Int)).f6 (rd_T28 l (i : Int)).f7 (rd_T28 l (i : Int)).f0 (rd_T28 l (i : Int)).f1 (rd_T28 l (i : Int)).f2 (rd_T28 l (i : Int)).f3 (rd_T28 l (i : Int)).f4 (rd_T28 l (i : Int)).f5 (rd_T28 l (i : Int)).f6 (rd_T28 l (i : Int)).f7)
  (fun k i hi => by simp only [laws_eqNodeS.l0]; rw [if_pos (by omega), if_pos (by omega), if_pos (by omega), w64 (by omega) (by omega)]; rfl)
  (fun i hi => by rw [rd_INode l i hi]; exact hx l[i] (List.getElem_mem hi)) (fun k => by simp only [laws_eqNodeS.l0]; rw [if_neg (by omega)])
 refine Ev.step (fun k => ?_) h
 simp only [laws_eqNodeS.f]
 rw [if_pos trivial]
theorem eqNode_f (x : S28) : vNode x ≤ 1048576 → Ev (fun k => laws_eqNode.f k x.f0 x.f1 x.f2 x.f3 x.f4 x.f5 x.f6 x.f7 x.f0 x.f1 x.f2 x.f3 x.f4 x.f5 x.f6 x.f7) true := by
 induction x using indI with
 | h x ih =>
  intro hw
  obtain ⟨b4, b5, b6, _, bk⟩ := vNode_bounds x
  refine Ev.congr (f := fun k => (laws_eqDeclS.f k x.f4 x.f4).bind fun t => (if t = true then ((laws_eqAttrS.f k x.f5 x.f5).bind fun t => (if t = true then ((laws_eqNodeS.f k x.f6 x.f6).bind fun t => (if t = true then some true else some false)) else (some false))) else (some false))) (fun k => by simp [laws_eqNode.f, laws_eqNode.F]) ?_
  refine Ev.bind (eqDeclS_f x.f4 (by omega)) (Ev.congr (fun k => by rw [if_pos rfl]) (Ev.bind (eqAttrS_f x.f5 (by omega)) (Ev.congr (fun k => by rw [if_pos rfl]) (Ev.bind (eqNodeS_of x.f6 (by omega) (fun y hy => ih y hy (by have := bk y hy; omega))) (Ev.congr (fun k => by rw [if_pos rfl]) (Ev.now _))))))
theorem eqNodeS_f (l : List S28) (hl : l.length ≤ 1048576) (hw : ∀ x ∈ l, vNode x ≤ 1048576) : Ev (fun k => laws_eqNodeS.f k l l) true :=
 eqNodeS_of l hl (fun x hx => eqNode_f x (hw x hx))
theorem all_k {P Q : Nat → Prop} (h : ∃ K, ∀ k, K ≤ k → P k) (h' : ∃ K, ∀ k, K ≤ k → Q k) : ∃ K, ∀ k, K ≤ k → P k ∧ Q k := by
 obtain ⟨K, h⟩ := h
 obtain ⟨K', h'⟩ := h'
 exact ⟨max K K', fun k hk => ⟨h k (by omega), h' k (by omega)⟩⟩
theorem contains_cons (b : UInt8) (l sub : List UInt8) : Go.Lib.contains (b :: l) sub = (sub.isPrefixOf (b :: l) || Go.Lib.contains l sub) := by
 unfold Go.Lib.contains
 conv => lhs; unfold Go.Lib.index
 have hge := Go.Lib.index_ge l sub
 by_cases h : sub.isPrefixOf (b :: l) = true
 ·rw [if_pos h, h]; rfl
 ·rw [if_neg h, Bool.eq_false_iff.2 h, Bool.false_or]
  by_cases hm : Go.Lib.index l sub = -1
  ·rw [if_pos (by simpa using hm), hm]
  ·rw [if_neg (by simpa using hm)]
   exact decide_eq_decide.2 (by omega)
theorem contains_short (l sub : List UInt8) (h : l.length < sub.length) : Go.Lib.contains l sub = false := by
 unfold Go.Lib.contains
 refine decide_eq_false (fun h0 => ?_)
 have := Go.Lib.index_room l sub h0
 omega
theorem has_l (s t : ByteArray) (hs : s.size ≤ 1048576) (ht : t.size ≤ 16) (ht0 : 0 < t.size) (d : Nat) : ∀ i : Nat, i ≤ s.size → s.size - i = d →
  Ev (fun k => spec_l5Has.l0 k s t (i : Int)) (Go.Lib.contains (s.data.toList.drop i) t.data.toList) := by
 have z1 := Go.Lib.size_eq s
 have z2 := Go.Lib.size_eq t
 induction d with
 | zero =>
  intro i hi hd
  rw [contains_short _ _ (by rw [List.length_drop]; omega)]
  refine Ev.step (fun k => ?_) (Ev.now _)
  simp only [spec_l5Has.l0]
  rw [w64 (by omega) (by omega), if_neg (by omega)]
 | succ d ih =>
  intro i hi hd
  have hlt : i < s.data.toList.length := by omega
  by_cases hf : i + t.size ≤ s.size
  ·have w1 : wrap64 ((i : Int) + 1) = ((i + 1 : Nat) : Int) := by rw [w64 (by omega) (by omega)]; omega
   have hx : ((s.extract ((i : Int)).toNat (((i : Int) + (t.size : Int))).toNat).toList = t.toList) ↔ t.data.toList.isPrefixOf (s.data.toList.drop i) = true := by
    rw [Go.Lib.extract_toList, Go.Lib.toList_data, List.isPrefixOf_iff_prefix, List.prefix_iff_eq_take]
    rw [show ((i : Int)).toNat = i by omega, show ((i : Int) + (t.size : Int)).toNat - i = t.data.toList.length by omega]
    exact eq_comm
   rw [List.drop_eq_getElem_cons hlt, contains_cons, ← List.drop_eq_getElem_cons hlt]
   have ih' := ih (i + 1) (by omega) (by omega)
   refine Ev.step (f := fun k => if (s.extract ((i : Int)).toNat (((i : Int) + (t.size : Int))).toNat).toList = t.toList then some true else spec_l5Has.l0 k s t ((i + 1 : Nat) : Int)) (fun k => ?_) ?_
   ·simp only [spec_l5Has.l0]
    rw [w64 (by omega) (by omega), if_pos (by omega), if_pos (by omega), if_pos (by omega), w1]
   ·by_cases hp : t.data.toList.isPrefixOf (s.data.toList.drop i) = true
    ·rw [hp, Bool.true_or]
     exact Ev.congr (fun k => by rw [if_pos (hx.2 hp)]) (Ev.now _)
    ·rw [Bool.eq_false_iff.2 hp, Bool.false_or]
     exact Ev.congr (fun k => by rw [if_neg (fun h => hp (hx.1 h))]) ih'
  ·rw [contains_short _ _ (by rw [List.length_drop]; omega)]
   refine Ev.step (fun k => ?_) (Ev.now _)
   simp only [spec_l5Has.l0]
   rw [w64 (by omega) (by omega), if_neg (by omega)]
theorem has_f (s t : ByteArray) (hs : s.size ≤ 1048576) (ht : t.size ≤ 16) (ht0 : 0 < t.size) : Ev (fun k => spec_l5Has.f k s t) (Go.Lib.contains s.data.toList t.data.toList) := by
 have h := has_l s t hs ht ht0 s.size 0 (by omega) (by omega)
 rw [List.drop_zero] at h
 exact h
theorem contains_f (s t : ByteArray) (hs : s.size ≤ 1048576) : strings_Contains.f s t = some (Go.Lib.contains s.data.toList t.data.toList) := by
 unfold strings_Contains.f
 rw [if_pos (by omega)]
theorem bt_dat (s : ByteArray) (i : Nat) (h : i < s.size) : bt s (i : Int) = ((s.data.toList[i]'(by rw [← Go.Lib.size_eq]; exact h)).toNat : Int) := by
 unfold bt
 rw [dif_pos (by simpa using h)]
 simp only [Int.toNat_natCast]
 rfl
theorem fold_eq2 (a : UInt8) (c : UInt8) (u l : Nat) (hc : c.toNat = l) (hl : l = u + 32) (h1 : 65 ≤ u) (h2 : u ≤ 90) : Go.Lib.foldEq a c = (decide ((a.toNat : Int) = l) || decide ((a.toNat : Int) = u)) := by
 unfold Go.Lib.foldEq
 rw [← Bool.decide_or]
 exact decide_eq_decide.2 (by omega)
theorem xml3 (s : ByteArray) : spec_l5Xml.f s = some (Go.Lib.equalFold s.data.toList [120, 109, 108]) := by
 have z := Go.Lib.size_eq s
 unfold spec_l5Xml.f spec_l5Xml.v
 by_cases h3 : s.size = 3
 ·have h0 := bt_dat s 0 (by omega)
  have h1 := bt_dat s 1 (by omega)
  have h2 := bt_dat s 2 (by omega)
  obtain ⟨l, hl⟩ : ∃ l, s.data.toList = l := ⟨_, rfl⟩
  have hz : l.length = 3 := by rw [← hl]; omega
  match l, hl, hz with
  | [], hl, hz => exact absurd hz (by simp)
  | [_], hl, hz => exact absurd hz (by simp)
  | [_, _], hl, hz => exact absurd hz (by simp)
  | _ :: _ :: _ :: _ :: _, hl, hz => exact absurd hz (by simp; try omega)
  | [a, b, c], hl, hz =>
   have fa := fold_eq2 a 120 88 120 rfl rfl (by omega) (by omega)
   have fb := fold_eq2 b 109 77 109 rfl rfl (by omega) (by omega)
   have fc := fold_eq2 c 108 76 108 rfl rfl (by omega) (by omega)
   have e0 : bt s 0 = (a.toNat : Int) := by simpa [hl] using h0
   have e1 : bt s 1 = (b.toNat : Int) := by simpa [hl] using h1
   have e2 : bt s 2 = (c.toNat : Int) := by simpa [hl] using h2
   rw [decide_eq_true h3, Bool.true_and, hl, e0, e1, e2]
   simp only [Go.Lib.equalFold, fa, fb, fc, Bool.and_true]
   rfl
 ·rw [decide_eq_false h3, Bool.false_and]
  generalize s.data.toList = l at *
  match l with
  | [] => rfl
  | [a] => simp [Go.Lib.equalFold]
  | [a, b] => simp [Go.Lib.equalFold]
  | [a, b, c] => simp at z; omega
  | a :: b :: c :: d :: l => simp [Go.Lib.equalFold]
theorem blank_some (n : Int) : ∃ b, spec_IsBlank.f n = some b := by
 unfold spec_IsBlank.f
 repeat' split
 all_goals exact ⟨_, rfl⟩
def dash (s : ByteArray) : Bool := decide (0 < s.size) && (bt s ((s.size : Int) - 1) == 45)
theorem suffix_f (s : ByteArray) (hs : s.size ≤ 1048576) : strings_HasSuffix.f s (⟨#[45]⟩ : ByteArray) = some (dash s) := by
 have z := Go.Lib.size_eq s
 have hc : ((⟨#[45]⟩ : ByteArray).size : Int) = 1 := rfl
 unfold strings_HasSuffix.f stringslite_HasSuffix.f dash
 simp only [hc]
 by_cases h : 0 < s.size
 ·rw [if_pos (by omega), w64 (by omega) (by omega), if_pos (by omega), if_pos (by omega), decide_eq_true h, Bool.true_and, Option.bind_some]
  have hb := bt_dat s (s.size - 1) (by omega)
  rw [show ((s.size - 1 : Nat) : Int) = (s.size : Int) - 1 by omega] at hb
  rw [hb, Go.Lib.extract_toList, show ((s.size : Int) - 1).toNat = s.size - 1 by omega, show s.size - (s.size - 1) = 1 by omega, List.drop_eq_getElem_cons (by omega)]
  simp only [List.take_succ_cons, List.take_zero, Option.some.injEq]
  generalize s.data.toList[s.size - 1]'(by omega) = c
  rw [show (⟨#[45]⟩ : ByteArray).toList = [45] by rw [Go.Lib.toList_data], Bool.eq_iff_iff]
  simp only [beq_iff_eq, List.cons.injEq, and_true]
  exact ⟨fun e => by subst e; rfl, fun e => UInt8.toNat_inj.1 (by have : (45 : UInt8).toNat = 45 := rfl; omega)⟩
 ·rw [if_neg (by omega), decide_eq_false h]
  rfl
theorem cmp_lt : ∀ a b : List UInt8, Go.Lib.compareBytes a b < 0 ↔ Op.bytesLess a b = true
 | [], [] => by simp [Go.Lib.compareBytes, Op.bytesLess]
 | [], _ :: _ => by simp [Go.Lib.compareBytes, Op.bytesLess]
 | _ :: _, [] => by simp [Go.Lib.compareBytes, Op.bytesLess]
 | a :: xs, b :: ys => by
  have ih := cmp_lt xs ys
  unfold Go.Lib.compareBytes Op.bytesLess
  by_cases h1 : a < b
  ·simp [h1]
  ·by_cases h2 : b < a
   ·have : a ≠ b := fun e => by subst e; exact h1 h2
    simp [h1, h2, this]
   ·have : a = b := by
     have h1' : ¬ a.toNat < b.toNat := h1
     have h2' : ¬ b.toNat < a.toNat := h2
     exact UInt8.toNat_inj.1 (by omega)
    subst this
    simpa [h1] using ih
theorem cmp_eq : ∀ a b : List UInt8, Go.Lib.compareBytes a b = 0 ↔ a = b
 | [], [] => by simp [Go.Lib.compareBytes]
 | [], _ :: _ => by simp [Go.Lib.compareBytes]
 | _ :: _, [] => by simp [Go.Lib.compareBytes]
 | a :: xs, b :: ys => by
  have ih := cmp_eq xs ys
  unfold Go.Lib.compareBytes
  by_cases h1 : a < b
  ·have : a ≠ b := fun e => by subst e; exact absurd h1 (by simp)
   simp [h1, this]
  ·by_cases h2 : b < a
   ·have : a ≠ b := fun e => by subst e; exact absurd h2 (by simp)
    simp [h1, h2, this]
   ·have : a = b := by
     have h1' : ¬ a.toNat < b.toNat := h1
     have h2' : ¬ b.toNat < a.toNat := h2
     exact UInt8.toNat_inj.1 (by omega)
    subst this
    simpa [h1] using ih
theorem less_f (x y : S68) : ∃ b c, spec_l5Less.f x.f0 x.f1 x.f2 x.f3 y.f0 y.f1 y.f2 y.f3 = some b ∧ impl_compareAttrs.f x.f0 x.f1 x.f2 x.f3 y.f0 y.f1 y.f2 y.f3 = some c ∧ (c ≥ 0 ↔ b = false) := by
 unfold spec_l5Less.f impl_compareAttrs.f strings_Compare.f
 rw [Go.Lib.toList_data, Go.Lib.toList_data, Go.Lib.toList_data, Go.Lib.toList_data]
 have l2 := cmp_lt x.f2.data.toList y.f2.data.toList
 have q2 := cmp_eq x.f2.data.toList y.f2.data.toList
 have l1 := cmp_lt x.f1.data.toList y.f1.data.toList
 by_cases h : Op.bytesLess x.f2.data.toList y.f2.data.toList = true
 ·have := l2.2 h
  rw [if_pos h]
  refine ⟨true, _, rfl, by rw [Option.bind_some, if_neg (by omega)], ?_⟩
  constructor
  ·intro; omega
  ·intro e; cases e
 ·have hn : ¬ Go.Lib.compareBytes x.f2.data.toList y.f2.data.toList < 0 := fun e => h (l2.1 e)
  rw [if_neg h]
  by_cases e : x.f2.data.toList = y.f2.data.toList
  ·rw [if_pos e]
   refine ⟨_, _, rfl, by rw [Option.bind_some, if_pos (q2.2 e), Option.bind_some], ?_⟩
   rw [← Bool.not_eq_true, ← l1]
   omega
  ·have : ¬ Go.Lib.compareBytes x.f2.data.toList y.f2.data.toList = 0 := fun e' => e (q2.1 e')
   rw [if_neg e]
   refine ⟨false, _, rfl, by rw [Option.bind_some, if_neg this], ?_⟩
   constructor
   ·intro; rfl
   ·intro; omega
theorem pre_same (p : ByteArray) (hp : p.size ≤ 1048576) : ∃ r, Ev (fun k => spec_l5Pre.f k p) r ∧ Ev (fun k => impl_preOk.f k p) r := by
 obtain ⟨q, q1, q2⟩ := plain_same p (by omega)
 have hx := xml_f p
 have hx2 := prefix_f p
 generalize Go.Lib.hasPrefix p.data.toList [120, 109, 108] = x at hx hx2
 by_cases h0 : p.toList = []
 ·exact ⟨true, Ev.congr (fun k => by simp only [spec_l5Pre.f]; rw [if_pos h0]) (Ev.now _), Ev.congr (fun k => by simp only [impl_preOk.f]; rw [if_pos h0]) (Ev.now _)⟩
 ·refine ⟨q && !x, Ev.congr (fun k => by simp only [spec_l5Pre.f]; rw [if_neg h0, hx]) (Ev.bind q1 ?_), Ev.congr (fun k => by simp only [impl_preOk.f]; rw [if_neg h0, hx2]) (Ev.bind q2 ?_)⟩ <;> exact Ev.congr (fun k => by cases q <;> rfl) (Ev.now _)
/-- The space of a part ahead, as the program asks it. -/
def uriB (t : Bool) (u p : ByteArray) : Bool := t && decide ((u.size : Int) ≤ 40) && (!(decide (u.toList = [])) || decide (p.toList = []))
theorem uri_f (u p : ByteArray) (t : Bool) (t2 : Ev (fun k => impl_TextOk.f k u) t) : Ev (fun k => impl_uriOk.f k u p) (uriB t u p) := by
 refine Ev.congr (fun k => by simp only [impl_uriOk.f]; rfl) (Ev.bind t2 ?_)
 unfold uriB
 cases t with
 | false => exact Ev.congr (fun k => by rw [if_neg (by simp)]; try rfl) (Ev.now _)
 | true =>
  refine Ev.congr (f := fun _ => some _) (fun k => ?_) (Ev.now _)
  rw [if_pos rfl]
  by_cases h1 : (u.size : Int) ≤ 40
  ·rw [if_pos h1, decide_eq_true h1]
   by_cases h2 : u.toList = []
   ·rw [if_pos h2, decide_eq_true h2]
    by_cases h3 : p.toList = []
    ·rw [h3]; rfl
    ·rw [decide_eq_false h3]
     have : (p.toList == []) = false := by simpa using h3
     rw [this]; rfl
   ·rw [if_neg h2, decide_eq_false h2]; rfl
  ·rw [if_neg h1, decide_eq_false h1]; rfl
theorem attr_same (x : S68) (h0 : x.f0.size ≤ 1048576) (h1 : x.f1.size ≤ 1048576) :
  ∃ r, Ev (fun k => spec_l5AttrOk.f k x.f0 x.f1 x.f2 x.f3) r ∧ Ev (fun k => impl_attrOk.f k x.f0 x.f1 x.f2 x.f3) r := by
 obtain ⟨p, p1, p2⟩ := pre_same x.f0 h0
 obtain ⟨q, q1, q2⟩ := plain_same x.f1 (by omega)
 obtain ⟨t, t1, t2⟩ := text_same x.f2
 obtain ⟨v, v1, v2⟩ := text_same x.f3
 have hu := uri_f x.f2 x.f0 t t2
 have hj : ∀ b : Bool, Ev (fun k => spec_l5AttrOk.j0 k b x.f0 x.f1 x.f2 x.f3) (!b && (v && (t && decide ((x.f2.size : Int) ≤ 40)))) := fun b => by
  refine Ev.step (fun k => by simp only [spec_l5AttrOk.j0]; rfl) ?_
  cases b with
  | true => exact Ev.congr (fun k => by rw [if_pos rfl]; try rfl) (Ev.now _)
  | false =>
   refine Ev.congr (fun k => by rw [if_neg (by simp)]; try rfl) (Ev.bind v1 ?_)
   cases v with
   | false => exact Ev.congr (fun k => by rw [if_neg (by simp)]; try rfl) (Ev.now _)
   | true =>
    refine Ev.congr (fun k => by rw [if_pos rfl]; try rfl) (Ev.bind t1 ?_)
    cases t with
    | false => exact Ev.congr (fun k => by rw [if_neg (by simp)]; try rfl) (Ev.now _)
    | true => exact Ev.congr (fun k => by rw [if_pos rfl]; try rfl) (Ev.now _)
 obtain ⟨K, hK⟩ := all_k p1 (all_k q1 (all_k (hj true) (all_k (hj false) (all_k (hj (x.f1.toList == [120, 109, 108, 110, 115])) (all_k p2 (all_k q2 (all_k hu v2)))))))
 have i0 : x.f0.toList.isEmpty = decide (x.f0.toList = []) := by cases x.f0.toList <;> rfl
 have i2 : x.f2.toList.isEmpty = decide (x.f2.toList = []) := by cases x.f2.toList <;> rfl
 refine ⟨p && ((x.f0.toList == []) == (x.f2.toList == [])) && uriB t x.f2 x.f0 && q && v && (!(x.f0.toList == []) || !(x.f1.toList == [120, 109, 108, 110, 115])), ⟨K, fun k hk => ?_⟩, ⟨K, fun k hk => ?_⟩⟩
 ·obtain ⟨a1, a2, a3, a4, a5, a6, a7, a8, a9⟩ := hK k hk
  simp only [spec_l5AttrOk.f, a1, a2, a3, a4, a5, Option.bind_some, uriB]
  by_cases e0 : x.f0.toList = [] <;> by_cases e2 : x.f2.toList = [] <;> cases p <;> cases q <;> cases t <;> cases v <;> by_cases e3 : (x.f2.size : Int) ≤ 40 <;> simp [i0, i2, e0, e2, e3, bne]
 ·obtain ⟨a1, a2, a3, a4, a5, a6, a7, a8, a9⟩ := hK k hk
  simp only [impl_attrOk.f, a6, a7, a8, a9, Option.bind_some, uriB]
  by_cases e0 : x.f0.toList = [] <;> by_cases e2 : x.f2.toList = [] <;> cases p <;> cases q <;> cases t <;> cases v <;> by_cases e3 : (x.f2.size : Int) ≤ 40 <;> simp [i0, i2, e0, e2, e3, bne]
theorem attrs_l (l : List S68) (hl : l.length ≤ 1048576) (hw : ∀ x ∈ l, x.f0.size ≤ 1048576 ∧ x.f1.size ≤ 1048576) (y0 : Int) (y1 y2 y3 : ByteArray) (y4 : List S73) (y6 : List S28) (y7 : ByteArray) (d : Nat) : ∀ i : Nat, i ≤ l.length → l.length - i = d →
  ∃ r, Ev (fun k => spec_l5One.l0 k (i : Int) y0 y1 y2 y3 y4 l y6 y7) r ∧ Ev (fun k => impl_attrsOk.l0 k l l (l.length : Int) (i : Int)) (r && decide ((l.length : Int) ≤ 5)) := by
 induction d with
 | zero =>
  intro i hi hd
  refine ⟨true, Ev.step (fun k => ?_) (Ev.now _), Ev.step (fun k => ?_) (Ev.now _)⟩
  ·simp only [spec_l5One.l0]
   rw [if_neg (by omega)]
  ·simp only [impl_attrsOk.l0]
   rw [if_neg (by omega), Bool.true_and]
 | succ d ih =>
  intro i hi hd
  have hlt : i < l.length := by omega
  have hrd := rd_IAttr l i hlt
  have w1 : wrap64 ((i : Int) + 1) = ((i + 1 : Nat) : Int) := by rw [w64 (by omega) (by omega)]; omega
  obtain ⟨q, q1, q2⟩ := attr_same l[i] (hw _ (List.getElem_mem hlt)).1 (hw _ (List.getElem_mem hlt)).2
  obtain ⟨r, r1, r2⟩ := ih (i + 1) (by omega) (by omega)
  by_cases h0 : (i : Int) > 0
  ·have w2 : wrap64 ((i : Int) - 1) = (i : Int) - 1 := w64 (by omega) (by omega)
   obtain ⟨b, c, hb, hc, hbc⟩ := less_f (rd_T68 l ((i : Int) - 1)) l[i]
   have hs : ∀ k, spec_l5One.l0 (k + 1) (i : Int) y0 y1 y2 y3 y4 l y6 y7 = (spec_l5AttrOk.f k l[i].f0 l[i].f1 l[i].f2 l[i].f3).bind fun t => if t = true then (if b = true then spec_l5One.l0 k ((i + 1 : Nat) : Int) y0 y1 y2 y3 y4 l y6 y7 else some false) else some false := fun k => by
    simp only [spec_l5One.l0]
    rw [if_pos (by omega), if_pos (by omega), if_pos h0, w2, if_pos (by omega), if_pos (by omega), hrd, hb, w1]
    rfl
   have hi' : ∀ k, impl_attrsOk.l0 (k + 1) l l (l.length : Int) (i : Int) = (impl_attrOk.f k l[i].f0 l[i].f1 l[i].f2 l[i].f3).bind fun t => if t = true then (if c ≥ 0 then some false else impl_attrsOk.l0 k l l (l.length : Int) ((i + 1 : Nat) : Int)) else some false := fun k => by
    simp only [impl_attrsOk.l0]
    rw [if_pos (by omega), if_pos (by omega), if_pos (by omega), if_pos h0, w2, if_pos (by omega), if_pos (by omega), hrd, hc, w1]
    rfl
   cases q with
   | false => exact ⟨false, Ev.step hs (Ev.bind q1 (Ev.congr (fun k => by rw [if_neg (by simp)]) (Ev.now _))), Ev.step hi' (Ev.bind q2 (Ev.congr (fun k => by rw [if_neg (by simp)]; try rfl) (Ev.now _)))⟩
   | true =>
    cases b with
    | false => exact ⟨false, Ev.step hs (Ev.bind q1 (Ev.congr (fun k => by rw [if_pos rfl, if_neg (by simp)]) (Ev.now _))), Ev.step hi' (Ev.bind q2 (Ev.congr (fun k => by rw [if_pos rfl, if_pos (hbc.2 rfl)]; try rfl) (Ev.now _)))⟩
    | true =>
     have hc' : ¬ c ≥ 0 := fun e => by cases hbc.1 e
     exact ⟨r, Ev.step hs (Ev.bind q1 (Ev.congr (fun k => by rw [if_pos rfl, if_pos rfl]) r1)), Ev.step hi' (Ev.bind q2 (Ev.congr (fun k => by rw [if_pos rfl, if_neg hc']) r2))⟩
  ·have hs : ∀ k, spec_l5One.l0 (k + 1) (i : Int) y0 y1 y2 y3 y4 l y6 y7 = (spec_l5AttrOk.f k l[i].f0 l[i].f1 l[i].f2 l[i].f3).bind fun t => if t = true then spec_l5One.l0 k ((i + 1 : Nat) : Int) y0 y1 y2 y3 y4 l y6 y7 else some false := fun k => by
    simp only [spec_l5One.l0]
    rw [if_pos (by omega), if_pos (by omega), if_neg h0, hrd, w1]
   have hi' : ∀ k, impl_attrsOk.l0 (k + 1) l l (l.length : Int) (i : Int) = (impl_attrOk.f k l[i].f0 l[i].f1 l[i].f2 l[i].f3).bind fun t => if t = true then impl_attrsOk.l0 k l l (l.length : Int) ((i + 1 : Nat) : Int) else some false := fun k => by
    simp only [impl_attrsOk.l0]
    rw [if_pos (by omega), if_pos (by omega), if_pos (by omega), if_neg h0, hrd, w1]
   cases q with
   | false => exact ⟨false, Ev.step hs (Ev.bind q1 (Ev.congr (fun k => by rw [if_neg (by simp)]) (Ev.now _))), Ev.step hi' (Ev.bind q2 (Ev.congr (fun k => by rw [if_neg (by simp)]; try rfl) (Ev.now _)))⟩
   | true => exact ⟨r, Ev.step hs (Ev.bind q1 (Ev.congr (fun k => by rw [if_pos rfl]) r1)), Ev.step hi' (Ev.bind q2 (Ev.congr (fun k => by rw [if_pos rfl]) r2))⟩
/-- Sizes that no sum passes. -/
def Fine (y : S28) : Prop := y.f1.size ≤ 1048576 ∧ y.f2.size ≤ 1048576 ∧ y.f7.size ≤ 1048576 ∧ (y.f4.length ≤ 1048576 ∧ ∀ d ∈ y.f4, d.f0.size ≤ 1048576) ∧ (y.f5.length ≤ 1048576 ∧ ∀ a ∈ y.f5, a.f0.size ≤ 1048576 ∧ a.f1.size ≤ 1048576) ∧ y.f6.length ≤ 1048576
theorem fine_conv (x : S47) (h : wNode x ≤ 1048576) : Fine (cNo x) := by
 have hb := wNode_bounds x
 have he := wNode_eq x
 have n4 := sumOf_nonneg wDecl_n x.f4
 have n5 := sumOf_nonneg wAttr_n x.f5
 have n6 := sumOf_nonneg wNode_n x.f6
 rw [convNode_eq]
 refine ⟨?_, ?_, ?_, ⟨?_, ?_⟩, ⟨?_, ?_⟩, ?_⟩
 ·show x.f1.size ≤ _; omega
 ·show x.f2.size ≤ _; omega
 ·show x.f7.size ≤ _; omega
 ·show (x.f4.map cDe).length ≤ _; rw [List.length_map]; omega
 ·intro d hd
  obtain ⟨z, hz, rfl⟩ := List.mem_map.1 hd
  have h1 := sumOf_mem wDecl_n hz
  have h3 : wDecl z = (z.f0.size : Int) + (z.f1.size : Int) := rfl
  show z.f0.size ≤ _
  omega
 ·show (x.f5.map cAt).length ≤ _; rw [List.length_map]; omega
 ·intro d hd
  obtain ⟨z, hz, rfl⟩ := List.mem_map.1 hd
  have h1 := sumOf_mem wAttr_n hz
  have h3 : wAttr z = (z.f0.size : Int) + (z.f1.size : Int) + (z.f2.size : Int) + (z.f3.size : Int) := rfl
  show z.f0.size ≤ _ ∧ z.f1.size ≤ _
  omega
 ·show (x.f6.map cNo).length ≤ _; rw [List.length_map]; omega
theorem one_el (y : S28) (hf : Fine y) (h : y.f0 = 1) :
  ∃ r1 r2 r3 r4 r5 : Bool, Ev (fun k => spec_l5One.f k y.f0 y.f1 y.f2 y.f3 y.f4 y.f5 y.f6 y.f7) (decide (y.f7.toList = []) && (r1 && (r2 && (r3 && (r4 && r5))))) ∧
   Ev (fun k => impl_preOk.f k y.f1) r1 ∧ Ev (fun k => impl_uriOk.f k y.f3 y.f1) r2 ∧ Ev (fun k => impl_PlainOk.f k y.f2) r3 ∧ Ev (fun k => impl_DeclsOk.f k y.f4) r4 ∧ Ev (fun k => impl_attrsOk.f k y.f5) r5 := by
 obtain ⟨f1, f2, f7, f4, f5, f6⟩ := hf
 obtain ⟨r1, p1, p2⟩ := pre_same y.f1 f1
 obtain ⟨r3, q1, q2⟩ := plain_same y.f2 (by omega)
 obtain ⟨t, t1, t2⟩ := text_same y.f3
 obtain ⟨r4, d1, d2⟩ := decls_same y.f4 f4.1 f4.2
 obtain ⟨ra, a1, a2⟩ := attrs_l y.f5 f5.1 f5.2 y.f0 y.f1 y.f2 y.f3 y.f4 y.f6 y.f7 y.f5.length 0 (by omega) (by omega)
 have hu := uri_f y.f3 y.f1 t t2
 refine ⟨r1, uriB t y.f3 y.f1, r3, r4, ra && decide ((y.f5.length : Int) ≤ 5), ?_, p2, hu, q2, d2, a2⟩
 have hj : ∀ b : Bool, Ev (fun k => spec_l5One.j0 k b y.f0 y.f1 y.f2 y.f3 y.f4 y.f5 y.f6 y.f7) (!b && ra) := fun b => by
  refine Ev.step (fun k => by simp only [spec_l5One.j0]; rfl) ?_
  cases b with
  | true => exact Ev.congr (fun k => by rw [if_pos rfl]; try rfl) (Ev.now _)
  | false => exact Ev.congr (fun k => by rw [if_neg (by simp)]; try rfl) a1
 obtain ⟨K, hK⟩ := all_k p1 (all_k q1 (all_k t1 (all_k d1 (all_k (hj true) (hj (decide ((y.f5.length : Int) > 5)))))))
 refine ⟨K, fun k hk => ?_⟩
 obtain ⟨e1, e2, e3, e4, e5, e6⟩ := hK k hk
 simp only [spec_l5One.f, if_pos h, e1, e2, e3, e4, e5, e6, Option.bind_some, uriB]
 clear e1 e2 e3 e4 e5 e6 hK hj hu a1 a2 d1 d2 t1 t2 q1 q2 p1 p2
 by_cases c7 : y.f7.toList = []
 ·rw [if_pos c7, decide_eq_true c7]
  have hlen : decide ((y.f5.length : Int) > 5) = !decide ((y.f5.length : Int) ≤ 5) := by rw [← decide_not]; exact decide_eq_decide.2 (by omega)
  rw [hlen]
  generalize decide ((y.f5.length : Int) ≤ 5) = L
  by_cases c1 : y.f1.toList = []
  ·rw [if_pos c1, decide_eq_true c1]
   by_cases c40 : (y.f3.size : Int) ≤ 40
   ·rw [if_neg (show ¬ (y.f3.size : Int) > 40 by omega), decide_eq_true c40]
    cases r1 <;> cases r3 <;> cases t <;> cases r4 <;> cases ra <;> cases L <;> simp
   ·rw [if_pos (show (y.f3.size : Int) > 40 by omega), decide_eq_false c40]
    cases r1 <;> cases r3 <;> cases t <;> cases r4 <;> simp
  ·rw [if_neg c1, decide_eq_false c1]
   by_cases c3 : y.f3.toList = []
   ·rw [if_pos c3, decide_eq_true c3]
    cases r1 <;> cases r3 <;> cases t <;> simp
   ·rw [if_neg c3, decide_eq_false c3]
    by_cases c40 : (y.f3.size : Int) ≤ 40
    ·rw [if_neg (show ¬ (y.f3.size : Int) > 40 by omega), decide_eq_true c40]
     cases r1 <;> cases r3 <;> cases t <;> cases r4 <;> cases ra <;> cases L <;> simp
    ·rw [if_pos (show (y.f3.size : Int) > 40 by omega), decide_eq_false c40]
     cases r1 <;> cases r3 <;> cases t <;> cases r4 <;> simp
 ·rw [if_neg c7, decide_eq_false c7]
  cases r1 <;> cases r3 <;> simp
def bareB (y : S28) : Bool := decide (y.f1.toList = []) && (decide (y.f3.toList = []) && (decide (y.f4.length = 0) && (decide (y.f5.length = 0) && decide (y.f6.length = 0))))
theorem bare_f (y : S28) : spec_l5Bare.f y.f0 y.f1 y.f2 y.f3 y.f4 y.f5 y.f6 y.f7 = some (bareB y) := by
 unfold spec_l5Bare.f bareB
 by_cases c1 : y.f1.toList = [] <;> by_cases c3 : y.f3.toList = [] <;> by_cases c4 : y.f4.length = 0 <;> by_cases c5 : y.f5.length = 0 <;> by_cases c6 : y.f6.length = 0 <;> simp [c1, c3, c4, c5, c6] <;> simp_all
def blankB (n : Int) : Bool := (spec_IsBlank.f n).getD false
theorem blankB_f (n : Int) : spec_IsBlank.f n = some (blankB n) := by
 obtain ⟨b, hb⟩ := blank_some n
 unfold blankB
 rw [hb]; rfl
theorem blankB_g (n : Int) : impl_IsBlank.f n = some (blankB n) := blankB_f n
def noteB (t : Bool) (s : ByteArray) : Bool := t && (!Go.Lib.contains s.data.toList [45, 45] && (!Go.Lib.contains s.data.toList [13] && !dash s))
def toldB (q t : Bool) (s u : ByteArray) : Bool := q && (!Go.Lib.equalFold s.data.toList [120, 109, 108] && (t && (!Go.Lib.contains u.data.toList [63, 62] && (!Go.Lib.contains u.data.toList [13] && (decide (u.toList = []) || !blankB (wrap64 (bt u 0)))))))
def leafB (q t : Bool) (y : S28) : Bool := if y.f0 = 2 then !decide (y.f7.toList = []) && t else if y.f0 = 3 then noteB t y.f7 else if y.f0 = 4 then toldB q t y.f2 y.f7 else false
theorem size0 (s : ByteArray) : s.toList = [] ↔ s.size = 0 := by
 rw [Go.Lib.toList_data, Go.Lib.size_eq, List.length_eq_zero_iff]
theorem note_i (s : ByteArray) (hs : s.size ≤ 1048576) (t : Bool) (t2 : Ev (fun k => impl_TextOk.f k s) t) : Ev (fun k => impl_noteOk.f k s) (noteB t s) := by
 refine Ev.congr (fun k => by simp only [impl_noteOk.f]; rfl) (Ev.bind t2 ?_)
 refine Ev.congr (f := fun _ => some (noteB t s)) (fun k => ?_) (Ev.now _)
 rw [contains_f _ _ hs, contains_f _ _ hs, suffix_f s hs]
 unfold noteB
 have e1 : (⟨#[45, 45]⟩ : ByteArray).data.toList = [45, 45] := rfl
 have e2 : (⟨#[13]⟩ : ByteArray).data.toList = [13] := rfl
 rw [e1, e2]
 generalize Go.Lib.contains s.data.toList [45, 45] = a
 generalize Go.Lib.contains s.data.toList [13] = b
 generalize dash s = c
 cases t <;> cases a <;> cases b <;> cases c <;> rfl
theorem told_i (s u : ByteArray) (hs : s.size ≤ 1048576) (hu : u.size ≤ 1048576) (q t : Bool) (q2 : Ev (fun k => impl_PlainOk.f k s) q) (t2 : Ev (fun k => impl_TextOk.f k u) t) : Ev (fun k => impl_toldOk.f k s u) (toldB q t s u) := by
 obtain ⟨K, hK⟩ := all_k q2 t2
 refine ⟨K, fun k hk => ?_⟩
 obtain ⟨e1, e2⟩ := hK k hk
 have hx : strings_EqualFold.f s (⟨#[120, 109, 108]⟩ : ByteArray) = some (Go.Lib.equalFold s.data.toList [120, 109, 108]) := by
  unfold strings_EqualFold.f
  rw [if_pos ⟨by omega, by rw [Go.Lib.toList_data]⟩]
 simp only [impl_toldOk.f, e1, e2, hx, contains_f _ _ hu, blankB_g, Option.bind_some]
 unfold toldB
 have g1 : (⟨#[63, 62]⟩ : ByteArray).data.toList = [63, 62] := rfl
 have g2 : (⟨#[13]⟩ : ByteArray).data.toList = [13] := rfl
 try rw [g1]
 try rw [g2]
 generalize Go.Lib.contains u.data.toList [63, 62] = a
 generalize Go.Lib.contains u.data.toList [13] = b
 generalize Go.Lib.equalFold s.data.toList [120, 109, 108] = x
 generalize blankB (wrap64 (bt u 0)) = c
 by_cases h0 : u.toList = []
 ·rw [if_pos h0, decide_eq_true h0]
  cases q <;> cases x <;> cases t <;> cases a <;> cases b <;> rfl
 ·have hz : 0 < (u.size : Int) := by have := mt (size0 u).2 h0; omega
  rw [if_neg h0, if_pos hz, decide_eq_false h0]
  cases q <;> cases x <;> cases t <;> cases a <;> cases b <;> cases c <;> rfl
theorem one_leaf (y : S28) (hf : Fine y) (h : ¬ y.f0 = 1) :
  ∃ o : Bool, Ev (fun k => spec_l5One.f k y.f0 y.f1 y.f2 y.f3 y.f4 y.f5 y.f6 y.f7) o ∧ Ev (fun k => impl_leafOk.f k y.f0 y.f1 y.f2 y.f3 y.f4 y.f5 y.f6 y.f7) o := by
 obtain ⟨f1, f2, f7, f4, f5, f6⟩ := hf
 obtain ⟨q, q1, q2⟩ := plain_same y.f2 (by omega)
 obtain ⟨t, t1, t2⟩ := text_same y.f7
 refine ⟨bareB y && ((decide (y.f2.toList = []) || decide (y.f0 = 4)) && leafB q t y), ?_, ?_⟩
 ·obtain ⟨K, hK⟩ := all_k q1 (all_k t1 (all_k (has_f y.f7 ⟨#[45, 45]⟩ f7 (by decide) (by decide)) (all_k (has_f y.f7 ⟨#[63, 62]⟩ f7 (by decide) (by decide)) (has_f y.f7 ⟨#[13]⟩ f7 (by decide) (by decide)))))
  refine ⟨K, fun k hk => ?_⟩
  obtain ⟨e1, e2, e3, e4, e5⟩ := hK k hk
  have g1 : (⟨#[63, 62]⟩ : ByteArray).data.toList = [63, 62] := rfl
  have g2 : (⟨#[13]⟩ : ByteArray).data.toList = [13] := rfl
  have g3 : (⟨#[45, 45]⟩ : ByteArray).data.toList = [45, 45] := rfl
  simp only [spec_l5One.f, if_neg h, bare_f, xml3, e1, e2, e3, e4, e5, g1, g2, g3, blankB_f, Option.bind_some]
  clear e1 e2 e3 e4 e5 hK
  unfold leafB noteB toldB
  generalize Go.Lib.contains y.f7.data.toList [63, 62] = a
  generalize Go.Lib.contains y.f7.data.toList [13] = b
  generalize Go.Lib.contains y.f7.data.toList [45, 45] = c
  generalize Go.Lib.equalFold y.f2.data.toList [120, 109, 108] = x
  generalize blankB (wrap64 (bt y.f7 0)) = e
  generalize bareB y = B
  by_cases k2 : y.f0 = 2
  ·simp only [if_pos k2, show ¬ y.f0 = 4 by omega, decide_false, Bool.or_false]
   by_cases c2 : y.f2.toList = [] <;> by_cases c7 : y.f7.toList = [] <;> cases B <;> cases t <;> simp [c2, c7]
  ·by_cases k3 : y.f0 = 3
   ·simp only [if_neg k2, if_pos k3, show ¬ y.f0 = 4 by omega, decide_false, Bool.or_false]
    by_cases c7 : y.f7.toList = []
    ·have hd : dash y.f7 = false := by unfold dash; rw [(size0 _).1 c7]; rfl
     rw [if_pos c7, hd]
     by_cases c2 : y.f2.toList = [] <;> cases B <;> cases t <;> cases c <;> cases b <;> simp [c2]
    ·have hz : 0 < y.f7.size := by have := mt (size0 y.f7).2 c7; omega
     have hd : dash y.f7 = (bt y.f7 ((y.f7.size : Int) - 1) == 45) := by unfold dash; rw [decide_eq_true hz, Bool.true_and]
     rw [if_neg c7, w64 (by omega) (by omega), if_pos (show 0 ≤ (y.f7.size : Int) - 1 by omega), if_pos (show (y.f7.size : Int) - 1 < (y.f7.size : Int) by omega), hd]
     by_cases c2 : y.f2.toList = [] <;> cases B <;> cases t <;> cases c <;> cases b <;> simp [c2, bne]
   ·by_cases k4 : y.f0 = 4
    ·simp only [if_neg k2, if_neg k3, if_pos k4, decide_eq_true k4, Bool.or_true, Bool.true_and]
     by_cases c7 : y.f7.toList = []
     ·rw [if_pos c7, decide_eq_true c7]
      cases B <;> cases q <;> cases x <;> cases t <;> cases a <;> cases b <;> rfl
     ·have hz : 0 < (y.f7.size : Int) := by have := mt (size0 y.f7).2 c7; omega
      rw [if_neg c7, if_pos hz, decide_eq_false c7]
      cases B <;> cases q <;> cases x <;> cases t <;> cases a <;> cases b <;> cases e <;> rfl
    ·simp only [if_neg k2, if_neg k3, if_neg k4, Bool.and_false]
 ·have hJ : ∀ b : Bool, Ev (fun k => impl_leafOk.j0 k b y.f0 y.f1 y.f2 y.f3 y.f4 y.f5 y.f6 y.f7) (!b && leafB q t y) := fun b => by
   refine Ev.step (fun k => by simp only [impl_leafOk.j0]; rfl) ?_
   cases b with
   | true => exact Ev.congr (fun k => by rw [if_pos rfl]; try rfl) (Ev.now _)
   | false =>
    rw [Bool.not_false, Bool.true_and]
    unfold leafB
    by_cases k2 : y.f0 = 2
    ·rw [if_pos k2]
     by_cases c7 : y.f7.toList = []
     ·exact Ev.congr (fun k => by rw [if_neg (by simp), if_pos k2, if_pos c7, decide_eq_true c7]; rfl) (Ev.now _)
     ·rw [decide_eq_false c7, Bool.not_false, Bool.true_and]
      exact Ev.congr (fun k => by rw [if_neg (by simp), if_pos k2, if_neg c7]) (Ev.bind t2 (Ev.now _))
    ·rw [if_neg k2]
     by_cases k3 : y.f0 = 3
     ·rw [if_pos k3]
      exact Ev.congr (fun k => by rw [if_neg (by simp), if_neg k2, if_pos k3]) (Ev.bind (note_i y.f7 f7 t t2) (Ev.now _))
     ·rw [if_neg k3]
      by_cases k4 : y.f0 = 4
      ·rw [if_pos k4]
       exact Ev.congr (fun k => by rw [if_neg (by simp), if_neg k2, if_neg k3, if_pos k4]) (Ev.bind (told_i y.f2 y.f7 f2 f7 q t q2 t2) (Ev.now _))
      ·rw [if_neg k4]
       exact Ev.congr (fun k => by rw [if_neg (by simp), if_neg k2, if_neg k3, if_neg k4]) (Ev.now _)
  obtain ⟨K, hK⟩ := all_k (hJ true) (all_k (hJ false) (hJ (y.f0 != 4)))
  refine ⟨K, fun k hk => ?_⟩
  obtain ⟨e1, e2, e3⟩ := hK k hk
  simp only [impl_leafOk.f, e1, e2, e3]
  unfold bareB
  generalize leafB q t y = L
  have hl : ∀ n : Nat, ((n : Int) > 0) = ¬ (n = 0) := fun n => propext (by omega)
  simp only [hl]
  by_cases c1 : y.f1.toList = [] <;> by_cases c3 : y.f3.toList = [] <;> by_cases c4 : y.f4.length = 0 <;> by_cases c5 : y.f5.length = 0 <;> by_cases c6 : y.f6.length = 0 <;> by_cases c2 : y.f2.toList = [] <;> simp only [c1, c3, c4, c5, c6, c2, if_true, if_false, not_true, not_false_eq_true, decide_true, decide_false, Bool.true_and, Bool.false_and, Bool.and_true, Bool.and_false, Bool.not_true, Bool.not_false, Bool.true_or, Bool.false_or]
  by_cases k4 : y.f0 = 4 <;> simp [k4]
mutual
def cntNode : S28 → Int
 | ⟨_, _, _, _, _, ats, ks, _⟩ => 1 + (ats.length : Int) + cntNodes ks
def cntNodes : List S28 → Int
 | [] => 0
 | x :: xs => cntNode x + cntNodes xs
end
theorem cntNodes_eq (l : List S28) : cntNodes l = sumOf cntNode l := by
 induction l with
 | nil => rfl
 | cons x l ih => rw [sumOf_cons, ← ih]; rfl
theorem cntNode_eq (x : S28) : cntNode x = 1 + (x.f5.length : Int) + sumOf cntNode x.f6 := by
 cases x
 rw [cntNode, cntNodes_eq]
theorem cntNode_pos (x : S28) : 0 ≤ cntNode x := by
 induction x using indI with
 | h x ih =>
  rw [cntNode_eq]
  have := sum_nonneg_of ih
  omega
theorem sum_le_len {α : Type} {v w : α → Int} {l : List α} (h : ∀ x ∈ l, v x ≤ 1 + w x) : sumOf v l ≤ (l.length : Int) + sumOf w l := by
 induction l with
 | nil => exact Int.le_refl _
 | cons z m ihm => rw [sumOf_cons, sumOf_cons]; have := h z (List.mem_cons_self ..); have := ihm (fun x hx => h x (List.mem_cons_of_mem _ hx)); simp only [List.length_cons]; omega
theorem cntNode_le (x : S28) : cntNode x ≤ 1 + vNode x := by
 induction x using indI with
 | h x ih =>
  rw [cntNode_eq, vNode_eq]
  have := sum_le_len ih
  omega
theorem spec_CountOf_f (x : S28) : vNode x ≤ 1048576 → Ev (fun k => spec_CountOf.f k x.f0 x.f1 x.f2 x.f3 x.f4 x.f5 x.f6 x.f7) (cntNode x) := by
 induction x using indI with
 | h x ih =>
  intro hv
  obtain ⟨b4, b5, b6, bs, bk⟩ := vNode_bounds x
  have hle := cntNode_le x
  rw [cntNode_eq] at hle
  have h := sum_all (l := x.f6) (c := cntNode) (M := 9223372036854775807) (by omega) (G := fun k acc i => spec_CountOf.l0 k acc i x.f0 x.f1 x.f2 x.f3 x.f4 x.f5 x.f6 x.f7)
   (H := fun k i => spec_CountOf.f k (rd_T28 x.f6 (i : Int)).f0 (rd_T28 x.f6 (i : Int)).f1 (rd_T28 x.f6 (i : Int)).f2 (rd_T28 x.f6 (i : Int)).f3 (rd_T28 x.f6 (i : Int)).f4 (rd_T28 x.f6 (i : Int)).f5 (rd_T28 x.f6 (i : Int)).f6 (rd_T28 x.f6 (i : Int)).f7)
   (fun y _ => cntNode_pos y) (fun k acc i hi => by simp only [spec_CountOf.l0]; rw [if_pos (by omega), if_pos (by omega), w64 (i := (i : Int) + 1) (by omega) (by omega)])
   (fun i hi => by rw [rd_INode _ i hi]; exact ih _ (List.getElem_mem hi) (by have := bk _ (List.getElem_mem hi); omega)) (fun k acc => by simp only [spec_CountOf.l0]; rw [if_neg (by omega)]) (1 + (x.f5.length : Int)) (by omega) (by omega)
  rw [cntNode_eq]
  exact Ev.step (fun k => by simp only [spec_CountOf.f]; rw [w64 (by omega) (by omega)]) h
theorem impl_CountOf_f (x : S28) : vNode x ≤ 1048576 → Ev (fun k => impl_CountOf.f k x.f0 x.f1 x.f2 x.f3 x.f4 x.f5 x.f6 x.f7) (cntNode x) := by
 induction x using indI with
 | h x ih =>
  intro hv
  obtain ⟨b4, b5, b6, bs, bk⟩ := vNode_bounds x
  have hle := cntNode_le x
  rw [cntNode_eq] at hle
  have h := sum_all (l := x.f6) (c := cntNode) (M := 9223372036854775807) (by omega) (G := fun k acc i => impl_CountOf.l0 k acc x.f6 (x.f6.length : Int) i)
   (H := fun k i => impl_CountOf.f k (rd_T28 x.f6 (i : Int)).f0 (rd_T28 x.f6 (i : Int)).f1 (rd_T28 x.f6 (i : Int)).f2 (rd_T28 x.f6 (i : Int)).f3 (rd_T28 x.f6 (i : Int)).f4 (rd_T28 x.f6 (i : Int)).f5 (rd_T28 x.f6 (i : Int)).f6 (rd_T28 x.f6 (i : Int)).f7)
   (fun y _ => cntNode_pos y) (fun k acc i hi => by simp only [impl_CountOf.l0]; rw [if_pos (by omega), if_pos (by omega), if_pos (by omega), w64 (i := (i : Int) + 1) (by omega) (by omega)])
   (fun i hi => by rw [rd_INode _ i hi]; exact ih _ (List.getElem_mem hi) (by have := bk _ (List.getElem_mem hi); omega)) (fun k acc => by simp only [impl_CountOf.l0]; rw [if_neg (by omega)]) (1 + (x.f5.length : Int)) (by omega) (by omega)
  rw [cntNode_eq]
  exact Ev.step (fun k => by simp only [impl_CountOf.f]; rw [w64 (by omega) (by omega)]) h
theorem Ev_and2 {x y : Nat → Option Bool} {a b : Bool} (hx : Ev x a) (hy : Ev y b) : Ev (fun k => impl_kidsOk.and2 (x k) (y k)) (a && b) := by
 obtain ⟨K, hK⟩ := all_k hx hy
 refine ⟨K, fun k hk => ?_⟩
 obtain ⟨e1, e2⟩ := hK k hk
 show impl_kidsOk.and2 (x k) (y k) = _
 rw [e1, e2]
 cases a <;> rfl
theorem Ev_map {α β : Type} {g : Nat → Option α} {r : α} (f : α → β) (h : Ev g r) : Ev (fun k => (g k).map f) (f r) := by
 obtain ⟨K, h⟩ := h
 exact ⟨K, fun k hk => by show Option.map f (g k) = _; rw [h k hk]; rfl⟩
def partEv (z : S28) (d : Int) (k : Nat) : Option Bool := impl_kidsOk.part k z.f0 z.f1 z.f2 z.f3 z.f4 z.f5 z.f6 z.f7 d
/-- What both tell of a node, so deep. -/
def PartQ (z : S28) (d : Int) : Prop := ∃ o p : Bool, Ev (fun k => spec_l5One.f k z.f0 z.f1 z.f2 z.f3 z.f4 z.f5 z.f6 z.f7) o ∧ Ev (partEv z d) p ∧
 (z.f0 = 1 → d = 7 → p = false) ∧ (z.f0 = 1 → d ≠ 7 → ∃ q, Ev (fun k => spec_l5Kids.f k z.f6 (wrap64 (d + 1))) q ∧ p = (o && q)) ∧ (z.f0 ≠ 1 → p = o)
def anyK (k : Nat) (d : Int) (l : List S28) : Option Bool := impl_Node_52.any (fun x => (impl_kidsOk.part k x.f0 x.f1 x.f2 x.f3 x.f4 x.f5 x.f6 x.f7 d).map not) l
theorem any_cons (z : S28) (l : List S28) (d : Int) (p a : Bool) (hp : Ev (partEv z d) p) (ha : Ev (fun k => anyK k d l) a) : Ev (fun k => anyK k d (z :: l)) (!p || a) := by
 refine Ev.congr (f := fun k => ((partEv z d k).map not).bind fun b => if b = true then some true else anyK k d l) (fun k => rfl) (Ev.bind (Ev_map not hp) ?_)
 cases p with
 | false => exact Ev.congr (fun k => by rw [Bool.not_false, if_pos rfl]; try rfl) (Ev.now _)
 | true => exact Ev.congr (fun k => by rw [Bool.not_true, if_neg (by simp)]) (by rw [Bool.not_true, Bool.false_or]; exact ha)
theorem kids_l (l : List S28) (hl : l.length ≤ 1048576) (d : Int) (hx : ∀ z ∈ l, PartQ z d) (m : Nat) : ∀ i : Nat, i ≤ l.length → l.length - i = m →
  ∃ n a : Bool, Ev (fun k => impl_noTwoTexts.l0 k l l (l.length : Int) (i : Int)) n ∧ Ev (fun k => anyK k d (l.drop i)) a ∧ Ev (fun k => spec_l5Kids.l0 k l d (i : Int)) (n && !a) := by
 induction m with
 | zero =>
  intro i hi hd
  refine ⟨true, false, Ev.step (fun k => ?_) (Ev.now _), ?_, Ev.step (fun k => ?_) (Ev.now _)⟩
  ·simp only [impl_noTwoTexts.l0]
   rw [if_neg (by omega)]
  ·rw [List.drop_eq_nil_of_le (by omega)]
   exact Ev.congr (fun k => rfl) (Ev.now _)
  ·simp only [spec_l5Kids.l0]
   rw [if_neg (by omega)]
   rfl
 | succ m ih =>
  intro i hi hd
  have hlt : i < l.length := by omega
  have hrd := rd_INode l i hlt
  have w1 : wrap64 ((i : Int) + 1) = ((i + 1 : Nat) : Int) := by rw [w64 (by omega) (by omega)]; omega
  obtain ⟨n, a, hn, ha, hs⟩ := ih (i + 1) (by omega) (by omega)
  obtain ⟨o, p, ho, hp, z1, z2, z3⟩ := hx l[i] (List.getElem_mem hlt)
  have hA := any_cons l[i] (l.drop (i + 1)) d p a hp ha
  rw [← List.drop_eq_getElem_cons hlt] at hA
  generalize l[i] = z at *
  have hj : ∀ b : Bool, ∃ q : Bool, p = (o && q) ∧ Ev (fun k => spec_l5Kids.j1 k l d (i : Int) b z.f0 z.f1 z.f2 z.f3 z.f4 z.f5 z.f6 z.f7) (!b && (q && (n && !a))) := fun b => by
   by_cases h1 : z.f0 = 1
   ·by_cases h7 : d = 7
    ·refine ⟨false, by rw [z1 h1 h7, Bool.and_false], Ev.step (fun k => by simp only [spec_l5Kids.j1]; rfl) ?_⟩
     cases b with
     | true => exact Ev.congr (fun k => by rw [if_pos rfl]; try rfl) (Ev.now _)
     | false => exact Ev.congr (fun k => by rw [if_neg (by simp), if_pos h1, if_pos h7]; try rfl) (Ev.now _)
    ·obtain ⟨q, hq, hpq⟩ := z2 h1 h7
     refine ⟨q, hpq, Ev.step (fun k => by simp only [spec_l5Kids.j1]; rfl) ?_⟩
     cases b with
     | true => exact Ev.congr (fun k => by rw [if_pos rfl]; try rfl) (Ev.now _)
     | false =>
      refine Ev.congr (fun k => by rw [if_neg (by simp), if_pos h1, if_neg h7]; try rfl) (Ev.bind hq ?_)
      cases q with
      | false => exact Ev.congr (fun k => by rw [if_neg (by simp)]; try rfl) (Ev.now _)
      | true => exact Ev.congr (fun k => by rw [if_pos rfl, w1]) (by simpa using hs)
   ·refine ⟨true, by rw [z3 h1, Bool.and_true], Ev.step (fun k => by simp only [spec_l5Kids.j1]; rfl) ?_⟩
    cases b with
    | true => exact Ev.congr (fun k => by rw [if_pos rfl]; try rfl) (Ev.now _)
    | false => exact Ev.congr (fun k => by rw [if_neg (by simp), if_neg h1, w1]) (by simpa using hs)
  obtain ⟨qt, ht1, ht2⟩ := hj true
  obtain ⟨qf, hf1, hf2⟩ := hj false
  by_cases h2 : z.f0 = 2
  ·by_cases h0 : (i : Int) > 0
   ·have w2 : wrap64 ((i : Int) - 1) = (i : Int) - 1 := w64 (by omega) (by omega)
    by_cases h3 : (rd_T28 l ((i : Int) - 1)).f0 = 2
    ·refine ⟨false, _, Ev.step (fun k => ?_) (Ev.now _), hA, Ev.step (fun k => ?_) (Ev.bind ho (f := fun k t => if t = true then spec_l5Kids.j1 k l d (i : Int) true z.f0 z.f1 z.f2 z.f3 z.f4 z.f5 z.f6 z.f7 else spec_l5Kids.j1 k l d (i : Int) true z.f0 z.f1 z.f2 z.f3 z.f4 z.f5 z.f6 z.f7) ?_)⟩
     ·simp only [impl_noTwoTexts.l0]
      rw [if_pos (by omega), if_pos (by omega), if_pos (by omega), if_pos h0, hrd, if_pos h2, w2, if_pos (by omega), if_pos (by omega), if_pos h3]
     ·simp only [spec_l5Kids.l0]
      rw [if_pos (by omega), if_pos (by omega), hrd, if_pos h2, if_pos h0, w2, if_pos (by omega), if_pos (by omega), h3]
      rfl
     ·cases o with
      | true => exact Ev.congr (fun k => by rw [if_pos rfl]) (by simpa using ht2)
      | false => exact Ev.congr (fun k => by rw [if_neg (by simp)]) (by simpa using ht2)
    ·refine ⟨n, _, Ev.step (f := fun k => impl_noTwoTexts.l0 k l l (l.length : Int) ((i + 1 : Nat) : Int)) (fun k => ?_) hn, hA, Ev.step (fun k => ?_) (Ev.bind ho (f := fun k t => if t = true then spec_l5Kids.j1 k l d (i : Int) false z.f0 z.f1 z.f2 z.f3 z.f4 z.f5 z.f6 z.f7 else spec_l5Kids.j1 k l d (i : Int) true z.f0 z.f1 z.f2 z.f3 z.f4 z.f5 z.f6 z.f7) ?_)⟩
     ·simp only [impl_noTwoTexts.l0]
      rw [if_pos (by omega), if_pos (by omega), if_pos (by omega), if_pos h0, hrd, if_pos h2, w2, if_pos (by omega), if_pos (by omega), if_neg h3, w1]
     ·simp only [spec_l5Kids.l0]
      rw [if_pos (by omega), if_pos (by omega), hrd, if_pos h2, if_pos h0, w2, if_pos (by omega), if_pos (by omega), show ((rd_T28 l ((i : Int) - 1)).f0 == 2) = false from by simpa using h3]
     ·cases o with
      | true => exact Ev.congr (fun k => by rw [if_pos rfl]) (by rw [show qf = p from by rw [hf1, Bool.true_and]] at hf2; cases p <;> cases n <;> cases a <;> simpa using hf2)
      | false => exact Ev.congr (fun k => by rw [if_neg (by simp)]) (by subst hf1; cases n <;> simpa using ht2)
   ·refine ⟨n, _, Ev.step (f := fun k => impl_noTwoTexts.l0 k l l (l.length : Int) ((i + 1 : Nat) : Int)) (fun k => ?_) hn, hA, Ev.step (fun k => ?_) (Ev.bind ho (f := fun k t => if t = true then spec_l5Kids.j1 k l d (i : Int) false z.f0 z.f1 z.f2 z.f3 z.f4 z.f5 z.f6 z.f7 else spec_l5Kids.j1 k l d (i : Int) true z.f0 z.f1 z.f2 z.f3 z.f4 z.f5 z.f6 z.f7) ?_)⟩
    ·simp only [impl_noTwoTexts.l0]
     rw [if_pos (by omega), if_pos (by omega), if_pos (by omega), if_neg h0, w1]
    ·simp only [spec_l5Kids.l0]
     rw [if_pos (by omega), if_pos (by omega), hrd, if_pos h2, if_neg h0]
    ·cases o with
     | true => exact Ev.congr (fun k => by rw [if_pos rfl]) (by rw [show qf = p from by rw [hf1, Bool.true_and]] at hf2; cases p <;> cases n <;> cases a <;> simpa using hf2)
     | false => exact Ev.congr (fun k => by rw [if_neg (by simp)]) (by subst hf1; cases n <;> simpa using ht2)
  ·refine ⟨n, _, Ev.step (f := fun k => impl_noTwoTexts.l0 k l l (l.length : Int) ((i + 1 : Nat) : Int)) (fun k => ?_) hn, hA, Ev.step (fun k => ?_) (Ev.bind ho (f := fun k t => if t = true then spec_l5Kids.j1 k l d (i : Int) false z.f0 z.f1 z.f2 z.f3 z.f4 z.f5 z.f6 z.f7 else spec_l5Kids.j1 k l d (i : Int) true z.f0 z.f1 z.f2 z.f3 z.f4 z.f5 z.f6 z.f7) ?_)⟩
   ·simp only [impl_noTwoTexts.l0]
    rw [if_pos (by omega), if_pos (by omega), if_pos (by omega), hrd, if_neg h2, w1]
    by_cases h0 : (i : Int) > 0
    ·rw [if_pos h0]
    ·rw [if_neg h0]
   ·simp only [spec_l5Kids.l0]
    rw [if_pos (by omega), if_pos (by omega), hrd, if_neg h2]
   ·cases o with
    | true => exact Ev.congr (fun k => by rw [if_pos rfl]) (by rw [show qf = p from by rw [hf1, Bool.true_and]] at hf2; cases p <;> cases n <;> cases a <;> simpa using hf2)
    | false => exact Ev.congr (fun k => by rw [if_neg (by simp)]) (by subst hf1; cases n <;> simpa using ht2)
theorem kids_same (l : List S28) (hl : l.length ≤ 1048576) (d : Int) (hx : ∀ z ∈ l, PartQ z d) :
  ∃ r : Bool, Ev (fun k => spec_l5Kids.f k l d) r ∧ Ev (fun k => impl_kidsOk.kids (impl_kidsOk.part k) k l d) r := by
 obtain ⟨n, a, hn, ha, hs⟩ := kids_l l hl d hx l.length 0 (by omega) (by omega)
 rw [List.drop_zero] at ha
 refine ⟨n && !a, Ev.step (fun k => by simp only [spec_l5Kids.f]; rfl) hs, ?_⟩
 exact Ev_and2 (x := fun k => impl_noTwoTexts.f k l) (y := fun k => (anyK k d l).map not) hn (Ev_map not ha)
theorem part_same (x : S47) : wNode x ≤ 1048576 → ∀ d : Int, 0 ≤ d → d ≤ 7 → PartQ (cNo x) d := by
 induction x using indL with
 | h x ih =>
  intro hw d h0 h7
  have hf := fine_conv x hw
  have hb := wNode_bounds x
  by_cases h1 : (cNo x).f0 = 1
  ·obtain ⟨r1, r2, r3, r4, r5, s0, s1, s2, s3, s4, s5⟩ := one_el (cNo x) hf h1
   by_cases hd : d = 7
   ·refine ⟨_, false, s0, Ev.step (f := fun _ => some false) (fun k => ?_) (Ev.now _), fun _ _ => rfl, fun _ h => absurd hd h, fun h => absurd h1 h⟩
    show impl_kidsOk.part (k + 1) _ _ _ _ _ _ _ _ d = _
    simp only [impl_kidsOk.part]
    rw [if_pos h1, if_pos (by omega)]
   ·have w1 : wrap64 (d + 1) = d + 1 := w64 (by omega) (by omega)
    obtain ⟨r, hr1, hr2⟩ := kids_same (cNo x).f6 hf.2.2.2.2.2 (d + 1) (fun z hz => by
     rw [convNode_eq] at hz
     obtain ⟨x', hx', rfl⟩ := List.mem_map.1 hz
     have := hb.2.2.2.2 x' hx'
     exact ih x' hx' (by omega) (d + 1) (by omega) (by omega))
    have hc := Ev_and2 s1 (Ev_and2 s2 (Ev_and2 s3 (Ev_and2 s4 (Ev_and2 s5 hr2))))
    refine ⟨_, decide ((cNo x).f7.toList = []) && (r1 && (r2 && (r3 && (r4 && (r5 && r))))), s0, Ev.step (f := fun k => if (cNo x).f7.toList = [] then impl_kidsOk.and2 (impl_preOk.f k (cNo x).f1) (impl_kidsOk.and2 (impl_uriOk.f k (cNo x).f3 (cNo x).f1) (impl_kidsOk.and2 (impl_PlainOk.f k (cNo x).f2) (impl_kidsOk.and2 (impl_DeclsOk.f k (cNo x).f4) (impl_kidsOk.and2 (impl_attrsOk.f k (cNo x).f5) (impl_kidsOk.kids (impl_kidsOk.part k) k (cNo x).f6 (d + 1)))))) else some false) (fun k => ?_) ?_, fun _ h => absurd h hd, fun _ _ => ⟨r, by rw [w1]; exact hr1, by cases r1 <;> cases r2 <;> cases r3 <;> cases r4 <;> cases r5 <;> cases r <;> cases decide ((cNo x).f7.toList = []) <;> rfl⟩, fun h => absurd h1 h⟩
    ·show impl_kidsOk.part (k + 1) _ _ _ _ _ _ _ _ d = _
     simp only [impl_kidsOk.part]
     rw [if_pos h1, if_neg (by omega), w1]
    ·by_cases c7 : (cNo x).f7.toList = []
     ·rw [decide_eq_true c7, Bool.true_and]
      exact Ev.congr (fun k => by rw [if_pos c7]) hc
     ·rw [decide_eq_false c7, Bool.false_and]
      exact Ev.congr (fun k => by rw [if_neg c7]) (Ev.now _)
  ·obtain ⟨o, o1, o2⟩ := one_leaf (cNo x) hf h1
   refine ⟨o, o, o1, Ev.step (f := fun k => impl_leafOk.f k (cNo x).f0 (cNo x).f1 (cNo x).f2 (cNo x).f3 (cNo x).f4 (cNo x).f5 (cNo x).f6 (cNo x).f7) (fun k => ?_) o2, fun h => absurd h h1, fun h => absurd h h1, fun _ => rfl⟩
   show impl_kidsOk.part (k + 1) _ _ _ _ _ _ _ _ d = _
   simp only [impl_kidsOk.part]
   rw [if_neg h1]
def cntK (a : Int) (l : List S28) : Int := (l.countP fun z => decide (z.f0 = a) : Nat)
theorem cntK_cons (a : Int) (z : S28) (l : List S28) : cntK a (z :: l) = cntK a l + if z.f0 = a then 1 else 0 := by
 unfold cntK
 rw [List.countP_cons]
 by_cases h : z.f0 = a <;> simp [h]
theorem cntK_bd (a : Int) (l : List S28) : 0 ≤ cntK a l ∧ cntK a l ≤ l.length := by
 unfold cntK
 have := List.countP_le_length (p := fun z : S28 => decide (z.f0 = a)) (l := l)
 omega
theorem kind_l (l : List S28) (hl : l.length ≤ 1048576) (a : Int) (m : Nat) : ∀ (i : Nat) (c : Int), i ≤ l.length → l.length - i = m → 0 ≤ c → c ≤ i →
  Ev (fun k => impl_ofKind.l0 k a c l (l.length : Int) (i : Int)) (c + cntK a (l.drop i)) := by
 induction m with
 | zero =>
  intro i c hi hd h0 h1
  rw [List.drop_eq_nil_of_le (by omega)]
  refine Ev.step (fun k => ?_) (Ev.now _)
  simp only [impl_ofKind.l0]
  rw [if_neg (by omega)]
  simp [cntK]
 | succ m ih =>
  intro i c hi hd h0 h1
  have hlt : i < l.length := by omega
  have hrd := rd_INode l i hlt
  have w1 : wrap64 ((i : Int) + 1) = ((i + 1 : Nat) : Int) := by rw [w64 (by omega) (by omega)]; omega
  rw [List.drop_eq_getElem_cons hlt, cntK_cons]
  by_cases h : l[i].f0 = a
  ·have := ih (i + 1) (c + 1) (by omega) (by omega) (by omega) (by omega)
   rw [if_pos h]
   refine Ev.step (f := fun k => impl_ofKind.l0 k a (c + 1) l (l.length : Int) ((i + 1 : Nat) : Int)) (fun k => ?_) (by rw [show c + (cntK a (List.drop (i + 1) l) + 1) = c + 1 + cntK a (List.drop (i + 1) l) by omega]; exact this)
   simp only [impl_ofKind.l0]
   rw [if_pos (by omega), if_pos (by omega), if_pos (by omega), hrd, if_pos h, w1, w64 (by omega) (by omega)]
  ·have := ih (i + 1) c (by omega) (by omega) (by omega) (by omega)
   rw [if_neg h, Int.add_zero]
   refine Ev.step (f := fun k => impl_ofKind.l0 k a c l (l.length : Int) ((i + 1 : Nat) : Int)) (fun k => ?_) this
   simp only [impl_ofKind.l0]
   rw [if_pos (by omega), if_pos (by omega), if_pos (by omega), hrd, if_neg h, w1]
theorem kind_f (l : List S28) (hl : l.length ≤ 1048576) (a : Int) : Ev (fun k => impl_ofKind.f k l a) (cntK a l) := by
 have h := kind_l l hl a l.length 0 0 (by omega) (by omega) (by omega) (by omega)
 rw [List.drop_zero, Int.zero_add] at h
 exact h
/-- The document's own part. -/
def docB (y : S28) (m : Int) (r : Bool) : Bool := decide (m = 1) && (decide (y.f1.toList = []) && (decide (y.f2.toList = []) && (decide (y.f3.toList = []) && (decide (y.f7.toList = []) && (decide (y.f4.length = 0) && (decide (y.f5.length = 0) && r))))))
theorem doc_l (y : S28) (hl : y.f6.length ≤ 1048576) (r : Bool) (hr : Ev (fun k => spec_l5Kids.f k y.f6 0) r) (m : Nat) : ∀ (i : Nat) (c : Int), i ≤ y.f6.length → y.f6.length - i = m → 0 ≤ c → c ≤ i →
  Ev (fun k => spec_NodeOk.l0 k c (i : Int) y.f0 y.f1 y.f2 y.f3 y.f4 y.f5 y.f6 y.f7) (decide (cntK 2 (y.f6.drop i) = 0) && docB y (c + cntK 1 (y.f6.drop i)) r) := by
 induction m with
 | zero =>
  intro i c hi hd h0 h1
  rw [List.drop_eq_nil_of_le (by omega)]
  have z2 : cntK 2 [] = 0 := rfl
  have z1 : cntK 1 [] = 0 := rfl
  rw [z1, z2, decide_eq_true rfl, Bool.true_and, Int.add_zero]
  refine Ev.step (f := fun k => if c = 1 then (if y.f1.toList = [] then (if y.f2.toList = [] then (if y.f3.toList = [] then (if y.f7.toList = [] then (if (y.f4.length : Int) = 0 then (if (y.f5.length : Int) = 0 then ((spec_l5Kids.f k y.f6 0).bind fun t => some t) else some false) else some false) else some false) else some false) else some false) else some false) else some false) (fun k => ?_) ?_
  ·simp only [spec_NodeOk.l0]
   rw [if_neg (by omega)]
  ·unfold docB
   by_cases e1 : c = 1
   ·by_cases e2 : y.f1.toList = []
    ·by_cases e3 : y.f2.toList = []
     ·by_cases e4 : y.f3.toList = []
      ·by_cases e5 : y.f7.toList = []
       ·by_cases e6 : y.f4.length = 0
        ·by_cases e7 : y.f5.length = 0
         ·rw [decide_eq_true e1, decide_eq_true e2, decide_eq_true e3, decide_eq_true e4, decide_eq_true e5, decide_eq_true e6, decide_eq_true e7]
          exact Ev.congr (fun k => by rw [if_pos e1, if_pos e2, if_pos e3, if_pos e4, if_pos e5, if_pos (by omega), if_pos (by omega)]) (Ev.bind hr (Ev.now _))
         ·rw [decide_eq_false e7]
          exact Ev.congr (fun k => by rw [if_pos e1, if_pos e2, if_pos e3, if_pos e4, if_pos e5, if_pos (by omega), if_neg (by omega)]; simp) (Ev.now _)
        ·rw [decide_eq_false e6]
         exact Ev.congr (fun k => by rw [if_pos e1, if_pos e2, if_pos e3, if_pos e4, if_pos e5, if_neg (by omega)]; simp) (Ev.now _)
       ·rw [decide_eq_false e5]
        exact Ev.congr (fun k => by rw [if_pos e1, if_pos e2, if_pos e3, if_pos e4, if_neg e5]; simp) (Ev.now _)
      ·rw [decide_eq_false e4]
       exact Ev.congr (fun k => by rw [if_pos e1, if_pos e2, if_pos e3, if_neg e4]; simp) (Ev.now _)
     ·rw [decide_eq_false e3]
      exact Ev.congr (fun k => by rw [if_pos e1, if_pos e2, if_neg e3]; simp) (Ev.now _)
    ·rw [decide_eq_false e2]
     exact Ev.congr (fun k => by rw [if_pos e1, if_neg e2]; simp) (Ev.now _)
   ·rw [decide_eq_false e1]
    exact Ev.congr (fun k => by rw [if_neg e1]; simp) (Ev.now _)
 | succ m ih =>
  intro i c hi hd h0 h1
  have hlt : i < y.f6.length := by omega
  have hrd := rd_INode y.f6 i hlt
  have w1 : wrap64 ((i : Int) + 1) = ((i + 1 : Nat) : Int) := by rw [w64 (by omega) (by omega)]; omega
  rw [List.drop_eq_getElem_cons hlt, cntK_cons, cntK_cons]
  have b2 := cntK_bd 2 (y.f6.drop (i + 1))
  by_cases k1 : y.f6[i].f0 = 1
  ·have := ih (i + 1) (c + 1) (by omega) (by omega) (by omega) (by omega)
   rw [if_pos k1, if_neg (by omega), Int.add_zero, show c + (cntK 1 (List.drop (i + 1) y.f6) + 1) = c + 1 + cntK 1 (List.drop (i + 1) y.f6) by omega]
   refine Ev.step (f := fun k => spec_NodeOk.l0 k (c + 1) ((i + 1 : Nat) : Int) y.f0 y.f1 y.f2 y.f3 y.f4 y.f5 y.f6 y.f7) (fun k => ?_) this
   simp only [spec_NodeOk.l0]
   rw [if_pos (by omega), if_pos (by omega), hrd, if_pos k1, if_neg (by omega), w1, w64 (by omega) (by omega)]
  ·by_cases k2 : y.f6[i].f0 = 2
   ·rw [if_pos k2, decide_eq_false (by omega), Bool.false_and]
    refine Ev.step (fun k => ?_) (Ev.now _)
    simp only [spec_NodeOk.l0]
    rw [if_pos (by omega), if_pos (by omega), hrd, if_neg k1, if_pos k2]
   ·have := ih (i + 1) c (by omega) (by omega) (by omega) (by omega)
    rw [if_neg k1, if_neg k2, Int.add_zero, Int.add_zero]
    refine Ev.step (f := fun k => spec_NodeOk.l0 k c ((i + 1 : Nat) : Int) y.f0 y.f1 y.f2 y.f3 y.f4 y.f5 y.f6 y.f7) (fun k => ?_) this
    simp only [spec_NodeOk.l0]
    rw [if_pos (by omega), if_pos (by omega), hrd, if_neg k1, if_neg k2, w1]
theorem nodeok_same (x : S47) (hw : wNode x ≤ 1048576) : ∃ r : Bool, Ev (fun k => spec_NodeOk.f k (cNo x).f0 (cNo x).f1 (cNo x).f2 (cNo x).f3 (cNo x).f4 (cNo x).f5 (cNo x).f6 (cNo x).f7) r ∧ Ev (fun k => impl_NodeOk.f k (cNo x).f0 (cNo x).f1 (cNo x).f2 (cNo x).f3 (cNo x).f4 (cNo x).f5 (cNo x).f6 (cNo x).f7) r := by
 have hv : vNode (cNo x) ≤ 1048576 := by have := vNode_conv x; omega
 have hf := fine_conv x hw
 have hb := wNode_bounds x
 have hs := spec_CountOf_f (cNo x) hv
 have hi := impl_CountOf_f (cNo x) hv
 have hp := part_same x hw 0 (by omega) (by omega)
 have hkids : ∀ z ∈ (cNo x).f6, PartQ z 0 := fun z hz => by
  rw [convNode_eq] at hz
  obtain ⟨x', hx', rfl⟩ := List.mem_map.1 hz
  have := hb.2.2.2.2 x' hx'
  exact part_same x' (by omega) 0 (by omega) (by omega)
 generalize cNo x = y at *
 generalize cntNode y = c at hs hi
 by_cases h60 : c > 60
 ·exact ⟨false, Ev.congr (fun k => by simp only [spec_NodeOk.f]; rfl) (Ev.bind hs (Ev.congr (fun k => by rw [if_pos h60]) (Ev.now _))), Ev.congr (fun k => by simp only [impl_NodeOk.f]; rfl) (Ev.bind hi (Ev.congr (fun k => by rw [if_pos h60]) (Ev.now _)))⟩
 by_cases hd : y.f0 = 0
 ·obtain ⟨r, r1, r2⟩ := kids_same y.f6 hf.2.2.2.2.2 0 hkids
  have hD := doc_l y hf.2.2.2.2.2 r r1 y.f6.length 0 0 (by omega) (by omega) (by omega) (by omega)
  rw [List.drop_zero, Int.zero_add] at hD
  have k1 := kind_f y.f6 hf.2.2.2.2.2 1
  have k2 := kind_f y.f6 hf.2.2.2.2.2 2
  refine ⟨_, Ev.congr (fun k => by simp only [spec_NodeOk.f]; rfl) (Ev.bind hs (Ev.congr (fun k => by rw [if_neg h60, if_pos hd]; try rfl) hD)), Ev.congr (fun k => by simp only [impl_NodeOk.f]; rfl) (Ev.bind hi ?_)⟩
  obtain ⟨K, hK⟩ := all_k k1 (all_k k2 r2)
  refine ⟨K, fun k hk => ?_⟩
  obtain ⟨e1, e2, e3⟩ := hK k hk
  have e3' : impl_kidsOk.f k y.f0 y.f1 y.f2 y.f3 y.f4 y.f5 y.f6 y.f7 0 = some r := e3
  simp only [if_neg h60, if_pos hd, e1, e2, e3', Option.bind_some]
  unfold docB
  generalize cntK 1 y.f6 = m1
  generalize cntK 2 y.f6 = m2
  have hl : ∀ n : Nat, ((n : Int) = 0) = (n = 0) := fun n => propext (by omega)
  simp only [hl]
  by_cases q1 : y.f1.toList = []
  ·by_cases q2 : y.f2.toList = []
   ·by_cases q3 : y.f3.toList = []
    ·by_cases q7 : y.f7.toList = []
     ·by_cases q4 : y.f4.length = 0
      ·by_cases q5 : y.f5.length = 0
       ·by_cases g1 : m1 = 1
        ·by_cases g2 : m2 = 0 <;> simp [q1, q2, q3, q7, q4, q5, g1, g2]
        ·simp [q1, q2, q3, q7, q4, q5, g1]
       ·simp [q1, q2, q3, q7, q4, q5]
      ·simp [q1, q2, q3, q7, q4]
     ·simp [q1, q2, q3, q7]
    ·simp [q1, q2, q3]
   ·simp [q1, q2]
  ·simp [q1]
 ·obtain ⟨o, p, o1, p1, z1, z2, z3⟩ := hp
  obtain ⟨n, a, hn, ha, hsl⟩ := kids_l [y] (by simp) 0 (fun z hz => by rw [List.mem_singleton.1 hz]; exact ⟨o, p, o1, p1, z1, z2, z3⟩) 1 0 (by simp) (by simp)
  have hn' : n = true := Ev.unique hn (Ev.step (f := fun k => impl_noTwoTexts.l0 k [y] [y] 1 1) (fun k => by
   simp only [impl_noTwoTexts.l0]
   rw [if_pos (by simp), if_pos (by simp), if_pos (by simp), if_neg (by simp), w64 (by omega) (by omega)]
   rfl) (Ev.step (fun k => by simp only [impl_noTwoTexts.l0]; rw [if_neg (by simp)]) (Ev.now _)))
  have ha' : a = (!p || false) := Ev.unique ha (any_cons y [] 0 p false p1 (Ev.congr (fun k => rfl) (Ev.now _)))
  subst hn' ha'
  have hsl' : Ev (fun k => spec_l5Kids.l0 k [y] 0 0) p := by simpa using hsl
  refine ⟨p, Ev.congr (fun k => by simp only [spec_NodeOk.f]; rfl) (Ev.bind hs ?_), Ev.congr (fun k => by simp only [impl_NodeOk.f]; rfl) (Ev.bind hi ?_)⟩
  ·refine Ev.congr (fun k => by rw [if_neg h60, if_neg hd]) (Ev.bind (a := p) (Ev.step (fun k => by simp only [spec_l5Kids.f]; cases y; rfl) hsl') (Ev.now _))
  ·exact Ev.congr (fun k => by rw [if_neg h60, if_neg hd]) (Ev.bind (a := p) (g := fun k => impl_partOk.f k y.f0 y.f1 y.f2 y.f3 y.f4 y.f5 y.f6 y.f7 0) p1 (Ev.now _))
/-! ### Go.Lib.replaceAll, byte by byte -/
section
open Go.Lib (index count replaceK replaceAll)
theorem index_cons_miss (c : UInt8) (l old : List UInt8) (h : old.isPrefixOf (c :: l) = false) : index (c :: l) old = if index l old == -1 then -1 else index l old + 1 := by
 simp [index, h]
theorem index_cons_hit (c : UInt8) (l old : List UInt8) (h : old.isPrefixOf (c :: l) = true) : index (c :: l) old = 0 := by
 simp [index, h]
theorem count_cons_miss (c : UInt8) (l old : List UInt8) (ho : old ≠ []) (h : old.isPrefixOf (c :: l) = false) : count (c :: l) old = count l old := by
 have hi := index_cons_miss c l old h
 by_cases hm : index l old = -1
 ·rw [Go.Lib.count_miss hm, Go.Lib.count_miss (by rw [hi, hm]; rfl)]
 ·have hge := Go.Lib.index_ge l old
  obtain ⟨i, hl⟩ : ∃ i : Nat, index l old = i := ⟨(index l old).toNat, by omega⟩
  have hcl : index (c :: l) old = ((i + 1 : Nat) : Int) := by
   rw [hi, if_neg (by simpa using hm), hl]
   omega
  rw [Go.Lib.count_hit ho hl, Go.Lib.count_hit ho hcl, show i + 1 + old.length = (i + old.length) + 1 by omega, List.drop_succ_cons]
theorem replaceK_cons_miss (c : UInt8) (l old new : List UInt8) (h : old.isPrefixOf (c :: l) = false) : ∀ n, replaceK old new n (c :: l) = c :: replaceK old new n l
 | 0 => rfl
 | n + 1 => by
  have hi := index_cons_miss c l old h
  by_cases hm : index l old = -1
  ·have hm' : index (c :: l) old = -1 := by rw [hi, hm]; rfl
   simp [replaceK, hm, hm']
  ·have hge := Go.Lib.index_ge l old
   obtain ⟨i, hl⟩ : ∃ i : Nat, index l old = i := ⟨(index l old).toNat, by omega⟩
   have hcl : index (c :: l) old = ((i + 1 : Nat) : Int) := by
    rw [hi, if_neg (by simpa using hm), hl]
    omega
   rw [Go.Lib.replaceK_hit old new n l i hl, Go.Lib.replaceK_hit old new n (c :: l) (i + 1) hcl, show i + 1 + old.length = (i + old.length) + 1 by omega, List.drop_succ_cons, List.take_succ_cons]
   rfl
theorem replaceAll_nil (old new : List UInt8) (ho : old ≠ []) (hn : old ≠ new) : replaceAll [] old new = [] := by
 unfold replaceAll Go.Lib.replace
 rw [if_neg (by simpa using hn)]
 have hm : index [] old = -1 := by
  cases old with
  | nil => exact absurd rfl ho
  | cons a t => rfl
 cases Go.Lib.replaceNum [] old (-1) with
 | zero => rfl
 | succ n => simp [replaceK, hm]
theorem replaceAll_eq (old new : List UInt8) (hn : old ≠ new) (s : List UInt8) : replaceAll s old new = replaceK old new (count s old) s := by
 unfold replaceAll Go.Lib.replace Go.Lib.replaceNum
 rw [if_neg (by simpa using hn), if_pos (.inl (by decide))]
theorem replaceAll_miss (old new : List UInt8) (ho : old ≠ []) (hn : old ≠ new) (c : UInt8) (l : List UInt8) (h : old.isPrefixOf (c :: l) = false) : replaceAll (c :: l) old new = c :: replaceAll l old new := by
 rw [replaceAll_eq old new hn, replaceAll_eq old new hn, count_cons_miss c l old ho h, replaceK_cons_miss c l old new h]
theorem replaceAll_hit (old new : List UInt8) (ho : old ≠ []) (hn : old ≠ new) (c : UInt8) (l : List UInt8) (h : old.isPrefixOf (c :: l) = true) : replaceAll (c :: l) old new = new ++ replaceAll ((c :: l).drop old.length) old new := by
 have hi : index (c :: l) old = ((0 : Nat) : Int) := index_cons_hit c l old h
 rw [replaceAll_eq old new hn, replaceAll_eq old new hn, Go.Lib.count_hit ho hi, Nat.add_comm 1, Go.Lib.replaceK_hit old new _ _ 0 hi]
 simp
/-- One byte, replaced everywhere. -/
theorem replaceAll_one (b : UInt8) (new : List UInt8) (hn : [b] ≠ new) : ∀ s : List UInt8, replaceAll s [b] new = s.flatMap fun c => if c = b then new else [c]
 | [] => replaceAll_nil [b] new (by simp) hn
 | c :: l => by
  rw [List.flatMap_cons, ← replaceAll_one b new hn l]
  by_cases h : c = b
  ·subst h
   rw [if_pos rfl, replaceAll_hit [c] new (by simp) hn c l (by simp [List.isPrefixOf])]
   rfl
  ·rw [if_neg h, replaceAll_miss [b] new (by simp) hn c l (by simp [List.isPrefixOf, Ne.symm h])]
   rfl
end
theorem bt_data (s : ByteArray) (i : Nat) (h : i < s.size) : bt s (i : Int) = ((s.data.toList[i]'(by rw [← Go.Lib.size_eq]; exact h)).toNat : Int) := by
 unfold bt
 rw [dif_pos (by simpa using h)]
 simp only [Int.toNat_natCast]
 rfl
theorem nb {c d : UInt8} (h : ¬ c = d) {z : Int} (hz : z = (d.toNat : Int)) : ¬ (c.toNat : Int) = z := fun e => h (UInt8.toNat_inj.1 (by omega))
theorem occ58 (l : List UInt8) (j : Nat) : Go.Lib.occAt l [58] j = decide (l[j]? = some 58) := by
 unfold Go.Lib.occAt
 rw [Bool.eq_iff_iff, decide_eq_true_iff]
 by_cases h : j < l.length
 ·rw [List.drop_eq_getElem_cons h, List.getElem?_eq_getElem h]
  simp only [List.isPrefixOf, Bool.and_true, beq_iff_eq, Option.some.injEq]
  exact ⟨fun h => h.symm, fun h => h.symm⟩
 ·rw [List.drop_eq_nil_of_le (by omega), List.getElem?_eq_none (by omega)]
  simp [List.isPrefixOf]
theorem extract_lo (s : ByteArray) (i : Nat) : (⟨(s.data.toList.take i).toArray⟩ : ByteArray) = s.extract 0 i := by
 apply Go.WideShapes.bytes_inj
 rw [Go.Lib.extract_data]
 simp
theorem extract_hi (s : ByteArray) (i : Nat) : (⟨(s.data.toList.drop i).toArray⟩ : ByteArray) = s.extract i s.size := by
 apply Go.WideShapes.bytes_inj
 rw [Go.Lib.extract_data, Go.Lib.size_eq]
 rw [List.take_of_length_le (by simp)]
def restSplit (k : Nat) (s : ByteArray) : Option (ByteArray × ByteArray × Bool) :=
 (strings_Cut.f s (⟨#[58]⟩ : ByteArray)).bind fun bt135 => (if bt135.2.2 = true then ((impl_PlainOk.f k bt135.1).bind fun t138 => (if t138 = true then ((impl_PlainOk.f k bt135.2.1).bind fun t139 => (if t139 = true then (some (bt135.1, bt135.2.1, true)) else (some ((⟨#[]⟩ : ByteArray), (⟨#[]⟩ : ByteArray), false)))) else (some ((⟨#[]⟩ : ByteArray), (⟨#[]⟩ : ByteArray), false)))) else (some ((⟨#[]⟩ : ByteArray), (⟨#[]⟩ : ByteArray), false)))
theorem cut_hit (s : ByteArray) (hs : s.size ≤ 16777216) (i : Nat) (hi : i < s.size) (h : s.data.toList[i]? = some 58) (hno : ∀ j, j < i → s.data.toList[j]? ≠ some 58) :
  strings_Cut.f s (⟨#[58]⟩ : ByteArray) = some (s.extract 0 i, s.extract (i + 1) s.size, true) := by
 have hx : Go.Lib.index s.data.toList [58] = (i : Int) := Go.Lib.index_first (by rw [← Go.Lib.size_eq]; omega) (by rw [occ58, decide_eq_true h]) (fun j hj => by rw [occ58, decide_eq_false (hno j hj)])
 have e : (⟨#[58]⟩ : ByteArray).data.toList = [58] := rfl
 unfold strings_Cut.f
 rw [if_pos (by omega), e]
 unfold Go.Lib.cut
 rw [hx, if_pos (by omega)]
 simp only [Int.toNat_natCast, List.length_cons, List.length_nil]
 rw [extract_lo, extract_hi]
theorem cut_miss (s : ByteArray) (hs : s.size ≤ 16777216) (hno : ∀ j, j < s.size → s.data.toList[j]? ≠ some 58) :
  ∃ a b, strings_Cut.f s (⟨#[58]⟩ : ByteArray) = some (a, b, false) := by
 have hx : Go.Lib.index s.data.toList [58] = -1 := Go.Lib.index_none (fun j hj => by
  rw [occ58]
  by_cases h : j < s.size
  ·rw [decide_eq_false (hno j h)]
  ·rw [Go.Lib.size_eq] at h
   rw [List.getElem?_eq_none (by omega)]
   simp)
 have e : (⟨#[58]⟩ : ByteArray).data.toList = [58] := rfl
 unfold strings_Cut.f
 rw [if_pos (by omega), e]
 unfold Go.Lib.cut
 rw [hx, if_neg (by omega)]
 exact ⟨_, _, rfl⟩
/-- What is known of a name's parts. -/
def SplitInfo (s : ByteArray) (r : ByteArray × ByteArray × Bool) : Prop :=
 r = ((⟨#[]⟩ : ByteArray), (⟨#[]⟩ : ByteArray), false) ∨ ∃ p l, r = (p, l, true) ∧ p ++ (⟨#[58]⟩ : ByteArray) ++ l = s ∧ Ev (fun k => impl_PlainOk.f k p) true ∧ Ev (fun k => impl_PlainOk.f k l) true
theorem glue (s : ByteArray) (i : Nat) (h : s.data.toList[i]? = some 58) : s.extract 0 i ++ (⟨#[58]⟩ : ByteArray) ++ s.extract (i + 1) s.size = s := by
 obtain ⟨hi, he⟩ := List.getElem?_eq_some_iff.1 h
 apply Go.WideShapes.bytes_inj
 rw [Go.Joins.data_append, Go.Joins.data_append, ← extract_lo, ← extract_hi]
 show s.data.toList.take i ++ [58] ++ s.data.toList.drop (i + 1) = s.data.toList
 conv => rhs; rw [← List.take_append_drop i s.data.toList, List.drop_eq_getElem_cons hi, he]
 simp
theorem split_l (s : ByteArray) (hs : s.size ≤ 16777216) (d : Nat) : ∀ i : Nat, i ≤ s.size → s.size - i = d → (∀ j, j < i → s.data.toList[j]? ≠ some 58) →
  ∃ r, Ev (fun k => spec_SplitName.l0 k s (i : Int)) r ∧ Ev (fun k => restSplit k s) r ∧ SplitInfo s r := by
 induction d with
 | zero =>
  intro i hi hd hno
  have e : i = s.size := by omega
  subst e
  obtain ⟨a, b, hc⟩ := cut_miss s hs hno
  refine ⟨((⟨#[]⟩ : ByteArray), (⟨#[]⟩ : ByteArray), false), Ev.step (fun k => ?_) (Ev.now _), Ev.congr (fun k => ?_) (Ev.now _), .inl rfl⟩
  ·simp only [spec_SplitName.l0]
   rw [if_neg (by omega)]
   try rfl
  ·unfold restSplit
   rw [hc, Option.bind_some, if_neg (by simp)]
 | succ d ih =>
  intro i hi hd hno
  have hlt : i < s.size := by omega
  have hb := bt_data s i hlt
  have w1 : wrap64 ((i : Int) + 1) = ((i + 1 : Nat) : Int) := by rw [w64 (by omega) (by omega)]; omega
  have hg : s.data.toList[i]? = some (s.data.toList[i]'(by rw [← Go.Lib.size_eq]; exact hlt)) := List.getElem?_eq_getElem _
  generalize s.data.toList[i]'(by rw [← Go.Lib.size_eq]; exact hlt) = c at hb hg
  by_cases hc : c = 58
  ·subst hc
   have hcut := cut_hit s hs i hlt hg hno
   obtain ⟨p, p1, p2⟩ := plain_same (s.extract 0 i) (by rw [ByteArray.size_extract]; omega)
   obtain ⟨q, q1, q2⟩ := plain_same (s.extract (i + 1) s.size) (by rw [ByteArray.size_extract]; omega)
   have hS : ∀ k, spec_SplitName.l0 (k + 1) s (i : Int) = (spec_PlainOk.f k (s.extract 0 i)).bind fun t122 => (if t122 = true then ((spec_PlainOk.f k (s.extract (i + 1) s.size)).bind fun t123 => (if t123 = true then (some (s.extract 0 i, s.extract (i + 1) s.size, true)) else (some ((⟨#[]⟩ : ByteArray), (⟨#[]⟩ : ByteArray), false)))) else (some ((⟨#[]⟩ : ByteArray), (⟨#[]⟩ : ByteArray), false))) := fun k => by
    simp only [spec_SplitName.l0]
    rw [if_pos (by omega), if_pos (by omega), hb, if_pos (by rfl), if_pos (by omega), w1, if_pos (by omega), if_pos (by omega)]
    simp only [Int.toNat_natCast]
   have hI : ∀ k, restSplit k s = (impl_PlainOk.f k (s.extract 0 i)).bind fun t122 => (if t122 = true then ((impl_PlainOk.f k (s.extract (i + 1) s.size)).bind fun t123 => (if t123 = true then (some (s.extract 0 i, s.extract (i + 1) s.size, true)) else (some ((⟨#[]⟩ : ByteArray), (⟨#[]⟩ : ByteArray), false)))) else (some ((⟨#[]⟩ : ByteArray), (⟨#[]⟩ : ByteArray), false))) := fun k => by
    unfold restSplit
    rw [hcut, Option.bind_some, if_pos rfl]
   cases p with
   | false => exact ⟨_, Ev.step hS (Ev.bind p1 (Ev.congr (fun k => by rw [if_neg (by simp)]) (Ev.now _))), Ev.congr hI (Ev.bind p2 (Ev.congr (fun k => by rw [if_neg (by simp)]) (Ev.now _))), .inl rfl⟩
   | true =>
    cases q with
    | false =>
     refine ⟨((⟨#[]⟩ : ByteArray), (⟨#[]⟩ : ByteArray), false), Ev.step hS (Ev.bind p1 (Ev.congr (fun k => by rw [if_pos rfl]) (Ev.bind q1 ?_))), Ev.congr hI (Ev.bind p2 (Ev.congr (fun k => by rw [if_pos rfl]) (Ev.bind q2 ?_))), .inl rfl⟩
     ·exact Ev.congr (fun k => by rw [if_neg (by simp)]) (Ev.now _)
     ·exact Ev.congr (fun k => by rw [if_neg (by simp)]) (Ev.now _)
    | true =>
     refine ⟨(s.extract 0 i, s.extract (i + 1) s.size, true), Ev.step hS (Ev.bind p1 (Ev.congr (fun k => by rw [if_pos rfl]) (Ev.bind q1 ?_))), Ev.congr hI (Ev.bind p2 (Ev.congr (fun k => by rw [if_pos rfl]) (Ev.bind q2 ?_))), .inr ⟨_, _, rfl, glue s i hg, p2, q2⟩⟩
     ·exact Ev.congr (fun k => by rw [if_pos rfl]) (Ev.now _)
     ·exact Ev.congr (fun k => by rw [if_pos rfl]) (Ev.now _)
  ·obtain ⟨r, r1, r2, r3⟩ := ih (i + 1) (by omega) (by omega) (fun j hj => by
    by_cases e : j = i
    ·subst e
     rw [hg]
     intro h
     exact hc (Option.some.inj h)
    ·exact hno j (by omega))
   refine ⟨r, Ev.step (fun k => ?_) r1, r2, r3⟩
   simp only [spec_SplitName.l0]
   rw [if_pos (by omega), if_pos (by omega), hb, if_neg (nb (z := 58) hc rfl), w1]
theorem split_full (s : ByteArray) (hs : s.size ≤ 16777216) : ∃ r pl, Ev (fun k => spec_SplitName.f k s) r ∧ Ev (fun k => impl_SplitName.f k s) r ∧ Ev (fun k => impl_PlainOk.f k s) pl ∧ ((pl = true ∧ r = ((⟨#[]⟩ : ByteArray), s, true)) ∨ (pl = false ∧ SplitInfo s r)) := by
 obtain ⟨p, p1, p2⟩ := plain_same s hs
 obtain ⟨r, r1, r2, r3⟩ := split_l s hs s.size 0 (by omega) (by omega) (fun j hj => by omega)
 cases p with
 | true => exact ⟨((⟨#[]⟩ : ByteArray), s, true), true, Ev.congr (fun k => rfl) (Ev.bind p1 (Ev.congr (fun k => by rw [if_pos rfl]) (Ev.now _))), Ev.congr (fun k => rfl) (Ev.bind p2 (Ev.congr (fun k => by rw [if_pos rfl]) (Ev.now _))), p2, .inl ⟨rfl, rfl⟩⟩
 | false =>
  refine ⟨r, false, Ev.congr (fun k => rfl) (Ev.bind p1 (Ev.congr (fun k => by rw [if_neg (by simp)]; rfl) r1)), ?_, p2, .inr ⟨rfl, r3⟩⟩
  refine Ev.congr (f := fun k => (impl_PlainOk.f k s).bind fun t134 => if t134 = true then some ((⟨#[]⟩ : ByteArray), s, true) else restSplit k s) (fun k => rfl) (Ev.bind p2 (Ev.congr (fun k => by rw [if_neg (by simp)]) r2))
theorem split_same (s : ByteArray) (hs : s.size ≤ 16777216) : ∃ r, Ev (fun k => spec_SplitName.f k s) r ∧ Ev (fun k => impl_SplitName.f k s) r := by
 obtain ⟨r, _, h1, h2, _⟩ := split_full s hs
 exact ⟨r, h1, h2⟩
/-- What stands for a byte. -/
def esc (attr : Bool) (c : UInt8) : List UInt8 :=
 if c = 38 then [38, 97, 109, 112, 59] else if c = 60 then [38, 108, 116, 59] else if c = 62 then [38, 103, 116, 59] else if c = 13 then [38, 35, 49, 51, 59]
 else if c = 34 then (if attr = true then [38, 113, 117, 111, 116, 59] else [c]) else if c = 9 then (if attr = true then [38, 35, 57, 59] else [c]) else if c = 10 then (if attr = true then [38, 35, 49, 48, 59] else [c]) else [c]
theorem esc_l (s : ByteArray) (hs : s.size ≤ 1048576) (attr : Bool) (d : Nat) : ∀ (i : Nat) (x : ByteArray), i ≤ s.size → s.size - i = d → x.size ≤ 6 * i →
  ∃ r, Ev (fun k => spec_l3Esc.l0 k s attr x (i : Int)) r ∧ r.data.toList = x.data.toList ++ (s.data.toList.drop i).flatMap (esc attr) := by
 induction d with
 | zero =>
  intro i x hi hd hx
  have e : s.data.toList.drop i = [] := List.drop_eq_nil_of_le (by rw [← Go.Lib.size_eq]; omega)
  refine ⟨x, Ev.step (f := fun _ => some _) (fun k => ?_) (Ev.now _), by rw [e]; simp⟩
  simp only [spec_l3Esc.l0]
  rw [if_neg (by omega)]
 | succ d ih =>
  intro i x hi hd hx
  have hlt : i < s.size := by omega
  have hb := bt_data s i hlt
  have e : s.data.toList.drop i = s.data.toList[i]'(by rw [← Go.Lib.size_eq]; exact hlt) :: s.data.toList.drop (i + 1) := List.drop_eq_getElem_cons (by rw [← Go.Lib.size_eq]; exact hlt)
  have w1 : wrap64 ((i : Int) + 1) = ((i + 1 : Nat) : Int) := by rw [w64 (by omega) (by omega)]; omega
  have hx1 : (s.extract i (i + 1)).size = 1 := by rw [ByteArray.size_extract]; omega
  have hx2 : (s.extract i (i + 1)).data.toList = [s.data.toList[i]'(by rw [← Go.Lib.size_eq]; exact hlt)] := by
   rw [Go.Lib.extract_data, e]
   simp
  rw [e, List.flatMap_cons]
  generalize s.data.toList[i]'(by rw [← Go.Lib.size_eq]; exact hlt) = c at hb hx2
  have hpush : ∀ y : ByteArray, y.data.toList = esc attr c → y.size ≤ 6 → ∃ r, Ev (fun k => spec_l3Esc.l0 k s attr (x ++ y) ((i + 1 : Nat) : Int)) r ∧ r.data.toList = x.data.toList ++ (esc attr c ++ (s.data.toList.drop (i + 1)).flatMap (esc attr)) := by
   intro y hy hys
   obtain ⟨r, r1, r2⟩ := ih (i + 1) (x ++ y) (by omega) (by omega) (by rw [ByteArray.size_append]; omega)
   exact ⟨r, r1, by rw [r2, Go.Joins.data_append, hy, List.append_assoc]⟩
  have hgo : ∀ (y : ByteArray), y.data.toList = esc attr c → y.size ≤ 6 → (∀ k, spec_l3Esc.l0 (k + 1) s attr x (i : Int) = if x.size + y.size ≤ 9223372036854775807 then spec_l3Esc.l0 k s attr (x ++ y) ((i + 1 : Nat) : Int) else none) →
    ∃ r, Ev (fun k => spec_l3Esc.l0 k s attr x (i : Int)) r ∧ r.data.toList = x.data.toList ++ (esc attr c ++ (s.data.toList.drop (i + 1)).flatMap (esc attr)) := by
   intro y hy hys hk
   obtain ⟨r, r1, r2⟩ := hpush y hy hys
   exact ⟨r, Ev.step (fun k => by rw [hk k, if_pos (by omega)]) r1, r2⟩
  by_cases c1 : c = 38
  ·subst c1
   refine hgo (⟨#[38, 97, 109, 112, 59]⟩ : ByteArray) rfl (by decide) (fun k => ?_)
   simp only [spec_l3Esc.l0]
   rw [if_pos (by omega), if_pos (by omega), w1, if_pos (by omega), if_pos (by omega), hb, if_pos (by rfl)]
   rfl
  by_cases c2 : c = 60
  ·subst c2
   refine hgo (⟨#[38, 108, 116, 59]⟩ : ByteArray) rfl (by decide) (fun k => ?_)
   simp only [spec_l3Esc.l0]
   rw [if_pos (by omega), if_pos (by omega), w1, if_pos (by omega), if_pos (by omega), hb, if_neg (nb (z := 38) c1 rfl), if_pos (by rfl)]
   rfl
  by_cases c3 : c = 62
  ·subst c3
   refine hgo (⟨#[38, 103, 116, 59]⟩ : ByteArray) rfl (by decide) (fun k => ?_)
   simp only [spec_l3Esc.l0]
   rw [if_pos (by omega), if_pos (by omega), w1, if_pos (by omega), if_pos (by omega), hb, if_neg (nb (z := 38) c1 rfl), if_neg (nb (z := 60) c2 rfl), if_pos (by rfl)]
   rfl
  by_cases c4 : c = 13
  ·subst c4
   refine hgo (⟨#[38, 35, 49, 51, 59]⟩ : ByteArray) rfl (by decide) (fun k => ?_)
   simp only [spec_l3Esc.l0]
   rw [if_pos (by omega), if_pos (by omega), w1, if_pos (by omega), if_pos (by omega), hb, if_neg (nb (z := 38) c1 rfl), if_neg (nb (z := 60) c2 rfl), if_neg (nb (z := 62) c3 rfl), if_pos (by rfl)]
   rfl
  have hhead : ∀ k, spec_l3Esc.l0 (k + 1) s attr x (i : Int) = (if (c.toNat : Int) = 34 then (if attr = true then (if x.size + 6 ≤ 9223372036854775807 then (spec_l3Esc.l0 k s attr (x ++ (⟨#[38, 113, 117, 111, 116, 59]⟩ : ByteArray)) ((i + 1 : Nat) : Int)) else (none)) else (if x.size + (s.extract i (i + 1)).size ≤ 9223372036854775807 then (spec_l3Esc.l0 k s attr (x ++ s.extract i (i + 1)) ((i + 1 : Nat) : Int)) else (none))) else (if (c.toNat : Int) = 9 then (if attr = true then (if x.size + 4 ≤ 9223372036854775807 then (spec_l3Esc.l0 k s attr (x ++ (⟨#[38, 35, 57, 59]⟩ : ByteArray)) ((i + 1 : Nat) : Int)) else (none)) else (if x.size + (s.extract i (i + 1)).size ≤ 9223372036854775807 then (spec_l3Esc.l0 k s attr (x ++ s.extract i (i + 1)) ((i + 1 : Nat) : Int)) else (none))) else (if (c.toNat : Int) = 10 then (if attr = true then (if x.size + 5 ≤ 9223372036854775807 then (spec_l3Esc.l0 k s attr (x ++ (⟨#[38, 35, 49, 48, 59]⟩ : ByteArray)) ((i + 1 : Nat) : Int)) else (none)) else (if x.size + (s.extract i (i + 1)).size ≤ 9223372036854775807 then (spec_l3Esc.l0 k s attr (x ++ s.extract i (i + 1)) ((i + 1 : Nat) : Int)) else (none))) else (if x.size + (s.extract i (i + 1)).size ≤ 9223372036854775807 then (spec_l3Esc.l0 k s attr (x ++ s.extract i (i + 1)) ((i + 1 : Nat) : Int)) else (none))))) := fun k => by
   simp only [spec_l3Esc.l0]
   rw [if_pos (by omega), if_pos (by omega), w1, if_pos (by omega), if_pos (by omega), hb, if_neg (nb (z := 38) c1 rfl), if_neg (nb (z := 60) c2 rfl), if_neg (nb (z := 62) c3 rfl), if_neg (nb (z := 13) c4 rfl)]
   simp only [Int.toNat_natCast]
  have hself : esc attr c = [c] → (∀ k, spec_l3Esc.l0 (k + 1) s attr x (i : Int) = if x.size + (s.extract i (i + 1)).size ≤ 9223372036854775807 then spec_l3Esc.l0 k s attr (x ++ s.extract i (i + 1)) ((i + 1 : Nat) : Int) else none) → ∃ r, Ev (fun k => spec_l3Esc.l0 k s attr x (i : Int)) r ∧ r.data.toList = x.data.toList ++ (esc attr c ++ (s.data.toList.drop (i + 1)).flatMap (esc attr)) :=
   fun h hk => hgo (s.extract i (i + 1)) (by rw [hx2, h]) (by omega) hk
  by_cases c5 : c = 34
  ·subst c5
   cases attr with
   | true =>
    refine hgo (⟨#[38, 113, 117, 111, 116, 59]⟩ : ByteArray) rfl (by decide) (fun k => ?_)
    rw [hhead, if_pos (by rfl), if_pos rfl]
    rfl
   | false =>
    refine hself rfl (fun k => ?_)
    rw [hhead, if_pos (by rfl), if_neg (by simp)]
  by_cases c6 : c = 9
  ·subst c6
   cases attr with
   | true =>
    refine hgo (⟨#[38, 35, 57, 59]⟩ : ByteArray) rfl (by decide) (fun k => ?_)
    rw [hhead, if_neg (nb (z := 34) c5 rfl), if_pos (by rfl), if_pos rfl]
    rfl
   | false =>
    refine hself rfl (fun k => ?_)
    rw [hhead, if_neg (nb (z := 34) c5 rfl), if_pos (by rfl), if_neg (by simp)]
  by_cases c7 : c = 10
  ·subst c7
   cases attr with
   | true =>
    refine hgo (⟨#[38, 35, 49, 48, 59]⟩ : ByteArray) rfl (by decide) (fun k => ?_)
    rw [hhead, if_neg (nb (z := 34) c5 rfl), if_neg (nb (z := 9) c6 rfl), if_pos (by rfl), if_pos rfl]
    rfl
   | false =>
    refine hself rfl (fun k => ?_)
    rw [hhead, if_neg (nb (z := 34) c5 rfl), if_neg (nb (z := 9) c6 rfl), if_pos (by rfl), if_neg (by simp)]
  refine hself (by unfold esc; rw [if_neg c1, if_neg c2, if_neg c3, if_neg c4, if_neg c5, if_neg c6, if_neg c7]) (fun k => ?_)
  rw [hhead, if_neg (nb (z := 34) c5 rfl), if_neg (nb (z := 9) c6 rfl), if_neg (nb (z := 10) c7 rfl)]
theorem specEsc_f (s : ByteArray) (hs : s.size ≤ 1048576) (attr : Bool) : ∃ r, Ev (fun k => spec_l3Esc.f k s attr) r ∧ r.data.toList = s.data.toList.flatMap (esc attr) := by
 obtain ⟨r, r1, r2⟩ := esc_l s hs attr s.size 0 (⟨#[]⟩ : ByteArray) (by omega) (by omega) (by decide)
 exact ⟨r, r1, by rw [r2]; simp⟩
theorem flat_le (e : UInt8 → List UInt8) (h : ∀ c, (e c).length ≤ 6) : ∀ l : List UInt8, (l.flatMap e).length ≤ 6 * l.length
 | [] => by simp
 | c :: l => by
  have := flat_le e h l
  have := h c
  simp only [List.flatMap_cons, List.length_append, List.length_cons]
  omega
def one (b : UInt8) (new : List UInt8) (c : UInt8) : List UInt8 := if c = b then new else [c]
theorem repl_f (t : List UInt8) (b : UInt8) (n : ByteArray) (ht : t.length ≤ 100000000) (hn : n.size ≤ 6) (hne : [b] ≠ n.data.toList) :
  strings_ReplaceAll.f (⟨t.toArray⟩ : ByteArray) (⟨#[b]⟩ : ByteArray) n = some ⟨(t.flatMap (one b n.data.toList)).toArray⟩ := by
 have z1 : (⟨#[b]⟩ : ByteArray).size = 1 := rfl
 have hsz : (⟨t.toArray⟩ : ByteArray).size = t.length := by rw [Go.Lib.size_eq]
 have c1 := Go.Lib.countB_mul_le (⟨#[b]⟩ : ByteArray) (by rw [z1]; omega) _ (⟨t.toArray⟩ : ByteArray) (Nat.le_refl _)
 rw [z1, hsz] at c1
 have c2 : Go.Lib.countB (⟨t.toArray⟩ : ByteArray) (⟨#[b]⟩ : ByteArray) * n.size ≤ t.length * 6 := Nat.mul_le_mul (by omega) hn
 unfold strings_ReplaceAll.f
 rw [z1, hsz, if_pos ⟨by omega, by omega, by omega⟩]
 have e : (⟨#[b]⟩ : ByteArray).data.toList = [b] := rfl
 have e2 : (⟨t.toArray⟩ : ByteArray).data.toList = t := by simp
 rw [e, e2, replaceAll_one b n.data.toList hne]
 rfl
theorem escText_eq (l : List UInt8) : (((l.flatMap (one 38 [38, 97, 109, 112, 59])).flatMap (one 60 [38, 108, 116, 59])).flatMap (one 62 [38, 103, 116, 59])).flatMap (one 13 [38, 35, 49, 51, 59]) = l.flatMap (esc false) := by
 simp only [List.flatMap_assoc]
 congr 1
 funext c
 unfold esc one
 by_cases c1 : c = 38
 ·subst c1; rfl
 by_cases c2 : c = 60
 ·subst c2; rfl
 by_cases c3 : c = 62
 ·subst c3; rfl
 by_cases c4 : c = 13
 ·subst c4; rfl
 simp [c1, c2, c3, c4]
theorem escAttr_eq (l : List UInt8) : (((l.flatMap (esc false)).flatMap (one 34 [38, 113, 117, 111, 116, 59])).flatMap (one 9 [38, 35, 57, 59])).flatMap (one 10 [38, 35, 49, 48, 59]) = l.flatMap (esc true) := by
 simp only [List.flatMap_assoc]
 congr 1
 funext c
 unfold esc one
 by_cases c1 : c = 38
 ·subst c1; rfl
 by_cases c2 : c = 60
 ·subst c2; rfl
 by_cases c3 : c = 62
 ·subst c3; rfl
 by_cases c4 : c = 13
 ·subst c4; rfl
 by_cases c5 : c = 34
 ·subst c5; rfl
 by_cases c6 : c = 9
 ·subst c6; rfl
 by_cases c7 : c = 10
 ·subst c7; rfl
 simp [c1, c2, c3, c4, c5, c6, c7]
theorem one_le (b : UInt8) (n : List UInt8) (h : n.length ≤ 6) (c : UInt8) : (one b n c).length ≤ 6 := by
 unfold one
 split
 ·exact h
 ·simp
theorem esc_le (attr : Bool) (c : UInt8) : (esc attr c).length ≤ 6 := by
 unfold esc
 repeat' split
 all_goals simp
theorem implEscText_f (s : ByteArray) (hs : s.size ≤ 1048576) : impl_EscText.f s = some ⟨(s.data.toList.flatMap (esc false)).toArray⟩ := by
 have e0 : s = (⟨s.data.toList.toArray⟩ : ByteArray) := by cases s; simp
 have hl : s.data.toList.length ≤ 1048576 := by rw [← Go.Lib.size_eq]; exact hs
 have h1 := flat_le (one 38 [38, 97, 109, 112, 59]) (one_le _ _ (by simp)) s.data.toList
 have h2 := flat_le (one 60 [38, 108, 116, 59]) (one_le _ _ (by simp)) (s.data.toList.flatMap (one 38 [38, 97, 109, 112, 59]))
 unfold impl_EscText.f
 conv => lhs; rw [e0]
 rw [repl_f _ _ _ (by omega) (by decide) (by decide), Option.bind_some, show (⟨#[38, 97, 109, 112, 59]⟩ : ByteArray).data.toList = [38, 97, 109, 112, 59] from rfl]
 rw [repl_f _ _ _ (by omega) (by decide) (by decide), Option.bind_some, show (⟨#[38, 108, 116, 59]⟩ : ByteArray).data.toList = [38, 108, 116, 59] from rfl]
 have h3 : (((s.data.toList.flatMap (one 38 [38, 97, 109, 112, 59])).flatMap (one 60 [38, 108, 116, 59])).flatMap (one 62 [38, 103, 116, 59])).length ≤ 6 * s.data.toList.length := by
  rw [List.flatMap_assoc, List.flatMap_assoc]
  refine flat_le _ (fun c => ?_) _
  unfold one
  by_cases c1 : c = 38
  ·subst c1; decide
  by_cases c2 : c = 60
  ·subst c2; decide
  by_cases c3 : c = 62
  ·subst c3; decide
  simp [c1, c2, c3]
 rw [repl_f _ _ _ (by omega) (by decide) (by decide), Option.bind_some, show (⟨#[38, 103, 116, 59]⟩ : ByteArray).data.toList = [38, 103, 116, 59] from rfl]
 rw [repl_f _ _ _ (by omega) (by decide) (by decide), Option.bind_some, show (⟨#[38, 35, 49, 51, 59]⟩ : ByteArray).data.toList = [38, 35, 49, 51, 59] from rfl]
 rw [escText_eq]
theorem implEscAttr_f (s : ByteArray) (hs : s.size ≤ 1048576) : impl_EscAttr.f s = some ⟨(s.data.toList.flatMap (esc true)).toArray⟩ := by
 have hl : s.data.toList.length ≤ 1048576 := by rw [← Go.Lib.size_eq]; exact hs
 have h1 := flat_le (esc false) (esc_le false) s.data.toList
 have h2 : ((s.data.toList.flatMap (esc false)).flatMap (one 34 [38, 113, 117, 111, 116, 59])).length ≤ 6 * s.data.toList.length := by
  rw [List.flatMap_assoc]
  refine flat_le _ (fun c => ?_) _
  unfold esc one
  by_cases c1 : c = 38
  ·subst c1; decide
  by_cases c2 : c = 60
  ·subst c2; decide
  by_cases c3 : c = 62
  ·subst c3; decide
  by_cases c4 : c = 13
  ·subst c4; decide
  by_cases c5 : c = 34
  ·subst c5; decide
  simp [c1, c2, c3, c4, c5]
 have h3 : (((s.data.toList.flatMap (esc false)).flatMap (one 34 [38, 113, 117, 111, 116, 59])).flatMap (one 9 [38, 35, 57, 59])).length ≤ 6 * s.data.toList.length := by
  rw [List.flatMap_assoc, List.flatMap_assoc]
  refine flat_le _ (fun c => ?_) _
  unfold esc one
  by_cases c1 : c = 38
  ·subst c1; decide
  by_cases c2 : c = 60
  ·subst c2; decide
  by_cases c3 : c = 62
  ·subst c3; decide
  by_cases c4 : c = 13
  ·subst c4; decide
  by_cases c5 : c = 34
  ·subst c5; decide
  by_cases c6 : c = 9
  ·subst c6; decide
  simp [c1, c2, c3, c4, c5, c6]
 unfold impl_EscAttr.f
 rw [implEscText_f s hs, Option.bind_some]
 rw [repl_f _ _ _ (by omega) (by decide) (by decide), Option.bind_some, show (⟨#[38, 113, 117, 111, 116, 59]⟩ : ByteArray).data.toList = [38, 113, 117, 111, 116, 59] from rfl]
 rw [repl_f _ _ _ (by omega) (by decide) (by decide), Option.bind_some, show (⟨#[38, 35, 57, 59]⟩ : ByteArray).data.toList = [38, 35, 57, 59] from rfl]
 rw [repl_f _ _ _ (by omega) (by decide) (by decide), Option.bind_some, show (⟨#[38, 35, 49, 48, 59]⟩ : ByteArray).data.toList = [38, 35, 49, 48, 59] from rfl]
 rw [escAttr_eq]
theorem ba_ext {a b : ByteArray} (h : a.data.toList = b.data.toList) : a = b := by
 obtain ⟨⟨a⟩⟩ := a
 obtain ⟨⟨b⟩⟩ := b
 simp at h
 rw [h]
theorem escA_both (s : ByteArray) (hs : s.size ≤ 1048576) : ∃ r : ByteArray, Ev (fun k => spec_EscAttr.f k s) r ∧ impl_EscAttr.f s = some r ∧ r.size ≤ 6 * s.size := by
 obtain ⟨r, h1, h2⟩ := specEsc_f s hs true
 have h3 := flat_le (esc true) (esc_le true) s.data.toList
 refine ⟨r, Ev.congr (fun k => rfl) (Ev.bind h1 (Ev.now _)), ?_, by rw [Go.Lib.size_eq, Go.Lib.size_eq, h2]; exact h3⟩
 rw [implEscAttr_f s hs]
 exact congrArg some (ba_ext h2.symm)
theorem escT_both (s : ByteArray) (hs : s.size ≤ 1048576) : ∃ r : ByteArray, Ev (fun k => spec_EscText.f k s) r ∧ impl_EscText.f s = some r ∧ r.size ≤ 6 * s.size := by
 obtain ⟨r, h1, h2⟩ := specEsc_f s hs false
 have h3 := flat_le (esc false) (esc_le false) s.data.toList
 refine ⟨r, Ev.congr (fun k => rfl) (Ev.bind h1 (Ev.now _)), ?_, by rw [Go.Lib.size_eq, Go.Lib.size_eq, h2]; exact h3⟩
 rw [implEscText_f s hs]
 exact congrArg some (ba_ext h2.symm)
theorem pick_le {c d e : Prop} [Decidable c] [Decidable d] [Decidable e] (b : ByteArray) : (if c then (if d then (if e then b else (⟨#[]⟩ : ByteArray)) else (⟨#[]⟩ : ByteArray)) else (⟨#[]⟩ : ByteArray)).size ≤ b.size := by
 have : (⟨#[]⟩ : ByteArray).size = 0 := rfl
 repeat' split
 all_goals omega
theorem join_sz (a b : ByteArray) (ha : a.size ≤ 1048576) (hb : b.size ≤ 1048576) : ∃ r : ByteArray, Ev (fun k => spec_JoinName.f k a b) r ∧ Ev (fun k => impl_JoinName.f k a b) r ∧ r.size ≤ a.size + b.size + 1 := by
 by_cases h0 : a.toList = []
 ·obtain ⟨r, r1, r2⟩ := split_same b (by omega)
  refine ⟨if r.2.2 = true then (if r.1.toList = a.toList then (if r.2.1.toList = b.toList then b else (⟨#[]⟩ : ByteArray)) else (⟨#[]⟩ : ByteArray)) else (⟨#[]⟩ : ByteArray), ?_, ?_, Nat.le_trans (pick_le b) (by omega)⟩
  ·refine Ev.congr (fun k => by simp only [spec_JoinName.f]; rw [if_pos h0]) (Ev.bind r1 (Ev.congr (f := fun _ => some _) (fun k => ?_) (Ev.now _)))
   repeat' split
   all_goals rfl
  ·refine Ev.congr (fun k => by simp only [impl_JoinName.f]; rw [if_pos h0]) (Ev.bind r2 (Ev.congr (f := fun _ => some _) (fun k => ?_) (Ev.now _)))
   repeat' split
   all_goals rfl
 ·have hz1 : (⟨#[58]⟩ : ByteArray).size = 1 := rfl
  have hz : (a ++ (⟨#[58]⟩ : ByteArray)).size = a.size + 1 := by rw [ByteArray.size_append, hz1]
  have hzz : (a ++ (⟨#[58]⟩ : ByteArray) ++ b).size = a.size + 1 + b.size := by rw [ByteArray.size_append, hz]
  obtain ⟨r, r1, r2⟩ := split_same (a ++ (⟨#[58]⟩ : ByteArray) ++ b) (by omega)
  refine ⟨if r.2.2 = true then (if r.1.toList = a.toList then (if r.2.1.toList = b.toList then (a ++ (⟨#[58]⟩ : ByteArray) ++ b) else (⟨#[]⟩ : ByteArray)) else (⟨#[]⟩ : ByteArray)) else (⟨#[]⟩ : ByteArray), ?_, ?_, Nat.le_trans (pick_le _) (by omega)⟩
  ·refine Ev.congr (fun k => by simp only [spec_JoinName.f]; rw [if_neg h0, if_pos (by omega), if_pos (by rw [hz]; omega)]) (Ev.bind r1 (Ev.congr (f := fun _ => some _) (fun k => ?_) (Ev.now _)))
   repeat' split
   all_goals rfl
  ·refine Ev.congr (fun k => by simp only [impl_JoinName.f]; rw [if_neg h0, if_pos (by omega), if_pos (by rw [hz]; omega)]) (Ev.bind r2 (Ev.congr (f := fun _ => some _) (fun k => ?_) (Ev.now _)))
   repeat' split
   all_goals rfl
theorem zsz (a : Array UInt8) : (⟨a⟩ : ByteArray).size = a.size := rfl
def declHead (a : ByteArray) : ByteArray := if a.toList = ([] : List UInt8) then (⟨#[120, 109, 108, 110, 115]⟩ : ByteArray) else (⟨#[120, 109, 108, 110, 115, 58]⟩ : ByteArray) ++ a
theorem declHead_le (a : ByteArray) : (declHead a).size ≤ 6 + a.size := by
 unfold declHead
 split
 ·simp only [zsz, List.size_toArray, List.length_cons, List.length_nil]; omega
 ·simp only [ByteArray.size_append, zsz, List.size_toArray, List.length_cons, List.length_nil]; omega
def declPart (a e : ByteArray) : ByteArray := (⟨#[32]⟩ : ByteArray) ++ declHead a ++ (⟨#[61, 34]⟩ : ByteArray) ++ e ++ (⟨#[34]⟩ : ByteArray)
theorem declPart_le (a e : ByteArray) : (declPart a e).size ≤ 10 + a.size + e.size := by
 have := declHead_le a
 unfold declPart
 simp only [ByteArray.size_append, zsz, List.size_toArray, List.length_cons, List.length_nil]
 omega
theorem declText_f (a u e : ByteArray) (he : impl_EscAttr.f u = some e) (ha : a.size ≤ 1048576) (hs : e.size ≤ 100000000) : impl_declText.f a u = some (declPart a e) := by
 unfold impl_declText.f declPart declHead
 rw [he]
 simp only [Option.bind_some, ByteArray.size_append, zsz, List.size_toArray, List.length_cons, List.length_nil]
 by_cases h0 : a.toList = ([] : List UInt8)
 ·rw [if_pos h0, if_pos h0, if_pos (by omega), if_pos (by omega), if_pos (by omega), if_pos (by omega)]
 ·rw [if_neg h0, if_neg h0, if_pos (by omega), if_pos (by omega), if_pos (by omega), if_pos (by omega), if_pos (by omega), if_pos (by omega)]
  rw [show (⟨#[120, 109, 108, 110, 115, 58]⟩ : ByteArray) = (⟨#[120, 109, 108, 110, 115]⟩ : ByteArray) ++ (⟨#[58]⟩ : ByteArray) from rfl, ByteArray.append_assoc (a := (⟨#[120, 109, 108, 110, 115]⟩ : ByteArray))]
def vD (z : S73) : Int := (z.f0.size : Int) + (z.f1.size : Int)
def vA (z : S68) : Int := (z.f0.size : Int) + (z.f1.size : Int) + (z.f2.size : Int) + (z.f3.size : Int)
theorem vD_nonneg (z : S73) : 0 ≤ vD z := by unfold vD; omega
theorem vA_nonneg (z : S68) : 0 ≤ vA z := by unfold vA; omega
theorem sumOf_map_eq {α β : Type} {f : α → β} {v : β → Int} {w : α → Int} (h : ∀ x, v (f x) = w x) (l : List α) : sumOf v (l.map f) = sumOf w l := by
 induction l with
 | nil => rfl
 | cons a l ih => rw [List.map_cons, sumOf_cons, sumOf_cons, ih, h]
theorem sumOf_drop {α : Type} (w : α → Int) (l : List α) (i : Nat) (h : i < l.length) : sumOf w (l.drop i) = w l[i] + sumOf w (l.drop (i + 1)) := by
 rw [List.drop_eq_getElem_cons h, sumOf_cons]
theorem decl_l (y : S28) (x3 x5 : ByteArray) (hl : y.f4.length ≤ 1048576) (hz : sumOf vD y.f4 ≤ 1048576) (m : Nat) : ∀ (i : Nat) (x6 : ByteArray), i ≤ y.f4.length → y.f4.length - i = m →
  (x6.size : Int) + 16 * ((m : Int) + sumOf vD (y.f4.drop i)) ≤ 1000000000 → ∃ s : ByteArray, (s.size : Int) ≤ x6.size + 16 * ((m : Int) + sumOf vD (y.f4.drop i)) ∧
   (∀ R, Ev (fun k => spec_l9Write.l2 k x3 x5 s 0 y.f0 y.f1 y.f2 y.f3 y.f4 y.f5 y.f6 y.f7) R → Ev (fun k => spec_l9Write.l1 k x3 x5 x6 (i : Int) y.f0 y.f1 y.f2 y.f3 y.f4 y.f5 y.f6 y.f7) R) ∧
   (∀ R, Ev (fun k => impl_written.l2 k x3 x5 s y.f5 (y.f5.length : Int) 0 y.f0 y.f1 y.f2 y.f3 y.f4 y.f5 y.f6 y.f7) R → Ev (fun k => impl_written.l1 k x3 x5 x6 y.f4 (y.f4.length : Int) (i : Int) y.f0 y.f1 y.f2 y.f3 y.f4 y.f5 y.f6 y.f7) R) := by
 induction m with
 | zero =>
  intro i x6 hi hd hb
  have := sumOf_nonneg vD_nonneg (y.f4.drop i)
  refine ⟨x6, by omega, fun R h => Ev.step (fun k => ?_) h, fun R h => Ev.step (fun k => ?_) h⟩
  ·simp only [spec_l9Write.l1]
   rw [if_neg (by omega)]
  ·simp only [impl_written.l1]
   rw [if_neg (by omega)]
 | succ m ih =>
  intro i x6 hi hd hb
  have hlt : i < y.f4.length := by omega
  have hrd := rd_IDecl y.f4 i hlt
  have w1 : wrap64 ((i : Int) + 1) = ((i + 1 : Nat) : Int) := by rw [w64 (by omega) (by omega)]; omega
  have hsd := sumOf_drop vD y.f4 i hlt
  have hn := sumOf_nonneg vD_nonneg (y.f4.drop (i + 1))
  have hzm := sumOf_mem vD_nonneg (List.getElem_mem hlt)
  generalize y.f4[i] = z at *
  have hvz : vD z = (z.f0.size : Int) + (z.f1.size : Int) := rfl
  obtain ⟨e, e1, e2, e3⟩ := escA_both z.f1 (by omega)
  have hp := declText_f z.f0 z.f1 e e2 (by omega) (by omega)
  have hpl := declPart_le z.f0 e
  have hsz : (x6 ++ declPart z.f0 e).size = x6.size + (declPart z.f0 e).size := ByteArray.size_append
  obtain ⟨s, s1, s2, s3⟩ := ih (i + 1) (x6 ++ declPart z.f0 e) (by omega) (by omega) (by omega)
  refine ⟨s, by omega, fun R h => ?_, fun R h => ?_⟩
  ·have h2 := s2 R h
   by_cases h0 : z.f0.toList = ([] : List UInt8)
   ·refine Ev.step (fun k => ?_) (Ev.bind e1 (f := fun k t => if x6.size + 1 + 5 + 2 + t.size ≤ 9223372036854775807 then (if x6.size + 1 + 5 + 2 + t.size + 1 ≤ 9223372036854775807 then spec_l9Write.l1 k x3 x5 (((((x6 ++ (⟨#[32]⟩ : ByteArray)) ++ (⟨#[120, 109, 108, 110, 115]⟩ : ByteArray)) ++ (⟨#[61, 34]⟩ : ByteArray)) ++ t) ++ (⟨#[34]⟩ : ByteArray)) ((i + 1 : Nat) : Int) y.f0 y.f1 y.f2 y.f3 y.f4 y.f5 y.f6 y.f7 else none) else none) ?_)
    ·simp only [spec_l9Write.l1, ByteArray.size_append, zsz, List.size_toArray, List.length_cons, List.length_nil]
     rw [if_pos (by omega), if_pos (by omega), hrd, if_pos h0, if_pos (by omega), if_pos (by omega), if_pos (by omega), w1]
    ·refine Ev.congr (fun k => by rw [if_pos (by omega), if_pos (by omega)]) ?_
     have : ((((x6 ++ (⟨#[32]⟩ : ByteArray)) ++ (⟨#[120, 109, 108, 110, 115]⟩ : ByteArray)) ++ (⟨#[61, 34]⟩ : ByteArray)) ++ e) ++ (⟨#[34]⟩ : ByteArray) = x6 ++ declPart z.f0 e := by
      unfold declPart declHead
      rw [if_pos h0]
      simp only [ByteArray.append_assoc]
     rw [this]
     exact h2
   ·refine Ev.step (fun k => ?_) (Ev.bind e1 (f := fun k t => if x6.size + 1 + (6 + z.f0.size) + 2 + t.size ≤ 9223372036854775807 then (if x6.size + 1 + (6 + z.f0.size) + 2 + t.size + 1 ≤ 9223372036854775807 then spec_l9Write.l1 k x3 x5 (((((x6 ++ (⟨#[32]⟩ : ByteArray)) ++ ((⟨#[120, 109, 108, 110, 115, 58]⟩ : ByteArray) ++ z.f0)) ++ (⟨#[61, 34]⟩ : ByteArray)) ++ t) ++ (⟨#[34]⟩ : ByteArray)) ((i + 1 : Nat) : Int) y.f0 y.f1 y.f2 y.f3 y.f4 y.f5 y.f6 y.f7 else none) else none) ?_)
    ·simp only [spec_l9Write.l1, ByteArray.size_append, zsz, List.size_toArray, List.length_cons, List.length_nil]
     rw [if_pos (by omega), if_pos (by omega), hrd, if_neg h0, if_pos (by omega), if_pos (by omega), if_pos (by omega), if_pos (by omega), w1]
    ·refine Ev.congr (fun k => by rw [if_pos (by omega), if_pos (by omega)]) ?_
     have : ((((x6 ++ (⟨#[32]⟩ : ByteArray)) ++ ((⟨#[120, 109, 108, 110, 115, 58]⟩ : ByteArray) ++ z.f0)) ++ (⟨#[61, 34]⟩ : ByteArray)) ++ e) ++ (⟨#[34]⟩ : ByteArray) = x6 ++ declPart z.f0 e := by
      unfold declPart declHead
      rw [if_neg h0]
      simp only [ByteArray.append_assoc]
     rw [this]
     exact h2
  ·refine Ev.step (fun k => ?_) (s3 R h)
   simp only [impl_written.l1]
   rw [if_pos (by omega), if_pos (by omega), if_pos (by omega), hrd, hp, Option.bind_some, if_pos (by omega), w1]
def attrPart (j e : ByteArray) : ByteArray := (⟨#[32]⟩ : ByteArray) ++ j ++ (⟨#[61, 34]⟩ : ByteArray) ++ e ++ (⟨#[34]⟩ : ByteArray)
theorem attrPart_le (j e : ByteArray) : (attrPart j e).size = 4 + j.size + e.size := by
 unfold attrPart
 simp only [ByteArray.size_append, zsz, List.size_toArray, List.length_cons, List.length_nil]
 omega
/-- What both write behind the attributes. -/
def elEnd (n : Nat) (x3 x5 s : ByteArray) : ByteArray := if (n : Int) = 0 then s ++ (⟨#[47, 62]⟩ : ByteArray) else ((((s ++ (⟨#[62]⟩ : ByteArray)) ++ x3) ++ (⟨#[60, 47]⟩ : ByteArray)) ++ x5) ++ (⟨#[62]⟩ : ByteArray)
theorem elEnd_le (n : Nat) (x3 x5 s : ByteArray) : (elEnd n x3 x5 s).size ≤ 4 + s.size + x3.size + x5.size := by
 unfold elEnd
 split
 ·simp only [ByteArray.size_append, zsz, List.size_toArray, List.length_cons, List.length_nil]; omega
 ·simp only [ByteArray.size_append, zsz, List.size_toArray, List.length_cons, List.length_nil]; omega
theorem attr_l (y : S28) (x3 x5 : ByteArray) (h3 : x3.size ≤ 1000000000) (h5 : x5.size ≤ 1000000000) (hl : y.f5.length ≤ 1048576) (hz : sumOf vA y.f5 ≤ 1048576) (m : Nat) : ∀ (i : Nat) (x6 : ByteArray), i ≤ y.f5.length → y.f5.length - i = m →
  (x6.size : Int) + 16 * ((m : Int) + sumOf vA (y.f5.drop i)) ≤ 1000000000 → ∃ s : ByteArray, (s.size : Int) ≤ 4 + x6.size + x3.size + x5.size + 16 * ((m : Int) + sumOf vA (y.f5.drop i)) ∧
   Ev (fun k => spec_l9Write.l2 k x3 x5 x6 (i : Int) y.f0 y.f1 y.f2 y.f3 y.f4 y.f5 y.f6 y.f7) s ∧
   Ev (fun k => impl_written.l2 k x3 x5 x6 y.f5 (y.f5.length : Int) (i : Int) y.f0 y.f1 y.f2 y.f3 y.f4 y.f5 y.f6 y.f7) s := by
 induction m with
 | zero =>
  intro i x6 hi hd hb
  have := sumOf_nonneg vA_nonneg (y.f5.drop i)
  have he := elEnd_le y.f6.length x3 x5 x6
  refine ⟨elEnd y.f6.length x3 x5 x6, by omega, Ev.step (fun k => ?_) (Ev.now _), Ev.step (fun k => ?_) (Ev.now _)⟩
  ·simp only [spec_l9Write.l2, ByteArray.size_append, zsz, List.size_toArray, List.length_cons, List.length_nil]
   rw [if_neg (by omega)]
   unfold elEnd
   by_cases h0 : (y.f6.length : Int) = 0
   ·rw [if_pos h0, if_pos h0, if_pos (by omega)]
   ·rw [if_neg h0, if_neg h0, if_pos (by omega), if_pos (by omega), if_pos (by omega), if_pos (by omega), if_pos (by omega)]
  ·simp only [impl_written.l2, ByteArray.size_append, zsz, List.size_toArray, List.length_cons, List.length_nil]
   rw [if_neg (by omega)]
   unfold elEnd
   by_cases h0 : (y.f6.length : Int) = 0
   ·rw [if_pos h0, if_pos h0, if_pos (by omega)]
   ·rw [if_neg h0, if_neg h0, if_pos (by omega), if_pos (by omega), if_pos (by omega), if_pos (by omega), if_pos (by omega)]
 | succ m ih =>
  intro i x6 hi hd hb
  have hlt : i < y.f5.length := by omega
  have hrd := rd_IAttr y.f5 i hlt
  have w1 : wrap64 ((i : Int) + 1) = ((i + 1 : Nat) : Int) := by rw [w64 (by omega) (by omega)]; omega
  have hsd := sumOf_drop vA y.f5 i hlt
  have hn := sumOf_nonneg vA_nonneg (y.f5.drop (i + 1))
  have hzm := sumOf_mem vA_nonneg (List.getElem_mem hlt)
  generalize y.f5[i] = z at *
  have hvz : vA z = (z.f0.size : Int) + (z.f1.size : Int) + (z.f2.size : Int) + (z.f3.size : Int) := rfl
  obtain ⟨e, e1, e2, e3⟩ := escA_both z.f3 (by omega)
  obtain ⟨j, j1, j2, j3⟩ := join_sz z.f0 z.f1 (by omega) (by omega)
  have hpl := attrPart_le j e
  have hsz : (x6 ++ attrPart j e).size = x6.size + (attrPart j e).size := ByteArray.size_append
  obtain ⟨s, s1, s2, s3⟩ := ih (i + 1) (x6 ++ attrPart j e) (by omega) (by omega) (by omega)
  have hap : ((((x6 ++ (⟨#[32]⟩ : ByteArray)) ++ j) ++ (⟨#[61, 34]⟩ : ByteArray)) ++ e) ++ (⟨#[34]⟩ : ByteArray) = x6 ++ attrPart j e := by
   unfold attrPart
   simp only [ByteArray.append_assoc]
  refine ⟨s, by omega, ?_, ?_⟩
  ·refine Ev.step (f := fun k => (spec_JoinName.f k z.f0 z.f1).bind fun t => if x6.size + 1 + t.size ≤ 9223372036854775807 then (if x6.size + 1 + t.size + 2 ≤ 9223372036854775807 then ((spec_EscAttr.f k z.f3).bind fun u => if x6.size + 1 + t.size + 2 + u.size ≤ 9223372036854775807 then (if x6.size + 1 + t.size + 2 + u.size + 1 ≤ 9223372036854775807 then spec_l9Write.l2 k x3 x5 (((((x6 ++ (⟨#[32]⟩ : ByteArray)) ++ t) ++ (⟨#[61, 34]⟩ : ByteArray)) ++ u) ++ (⟨#[34]⟩ : ByteArray)) ((i + 1 : Nat) : Int) y.f0 y.f1 y.f2 y.f3 y.f4 y.f5 y.f6 y.f7 else none) else none) else none) else none) (fun k => ?_) (Ev.bind j1 ?_)
   ·simp only [spec_l9Write.l2, ByteArray.size_append, zsz, List.size_toArray, List.length_cons, List.length_nil]
    rw [if_pos (by omega), if_pos (by omega), hrd, if_pos (by omega), w1]
   ·refine Ev.congr (fun k => by rw [if_pos (by omega), if_pos (by omega)]) (Ev.bind e1 (Ev.congr (fun k => by rw [if_pos (by omega), if_pos (by omega), hap]) s2))
  ·refine Ev.step (f := fun k => (impl_JoinName.f k z.f0 z.f1).bind fun t => if 1 + t.size ≤ 9223372036854775807 then (if 1 + t.size + 2 ≤ 9223372036854775807 then ((impl_EscAttr.f z.f3).bind fun u => if 1 + t.size + 2 + u.size ≤ 9223372036854775807 then (if 1 + t.size + 2 + u.size + 1 ≤ 9223372036854775807 then (if x6.size + (1 + t.size + 2 + u.size + 1) ≤ 9223372036854775807 then impl_written.l2 k x3 x5 (x6 ++ attrPart t u) y.f5 (y.f5.length : Int) ((i + 1 : Nat) : Int) y.f0 y.f1 y.f2 y.f3 y.f4 y.f5 y.f6 y.f7 else none) else none) else none) else none) else none) (fun k => ?_) (Ev.bind j2 ?_)
   ·simp only [impl_written.l2, ByteArray.size_append, zsz, List.size_toArray, List.length_cons, List.length_nil]
    rw [if_pos (by omega), if_pos (by omega), if_pos (by omega), hrd, w1]
    rfl
   ·exact Ev.congr (fun k => by rw [if_pos (by omega), if_pos (by omega), e2, Option.bind_some, if_pos (by omega), if_pos (by omega), if_pos (by omega)]) s3
/-- What both write of a node, and how long it is at most. -/
def WriteQ (z : S28) (m : Int) : Prop := ∃ r : ByteArray, Ev (fun k => spec_l9Write.f k z.f0 z.f1 z.f2 z.f3 z.f4 z.f5 z.f6 z.f7) r ∧ Ev (fun k => impl_written.f k z.f0 z.f1 z.f2 z.f3 z.f4 z.f5 z.f6 z.f7) r ∧ (r.size : Int) ≤ 16 * m + 16
theorem kidsw_l (y : S28) (l : List S47) (hyl : y.f6 = l.map cNo) (hl : l.length ≤ 1048576) (hz : sumOf wNode l ≤ 1048576) (hq : ∀ x ∈ l, WriteQ (cNo x) (wNode x)) (m : Nat) : ∀ (i : Nat) (x3 : ByteArray), i ≤ l.length → l.length - i = m →
  (x3.size : Int) + 16 * ((m : Int) + sumOf wNode (l.drop i)) ≤ 100000000 → ∃ s : ByteArray, (s.size : Int) ≤ x3.size + 16 * ((m : Int) + sumOf wNode (l.drop i)) ∧
   (∀ R, Ev (fun k => spec_l9Write.l0 k s (l.length : Int) y.f0 y.f1 y.f2 y.f3 y.f4 y.f5 y.f6 y.f7) R → Ev (fun k => spec_l9Write.l0 k x3 (i : Int) y.f0 y.f1 y.f2 y.f3 y.f4 y.f5 y.f6 y.f7) R) ∧
   (∀ R, Ev (fun k => impl_written.l0 k s y.f6 (l.length : Int) (l.length : Int) y.f0 y.f1 y.f2 y.f3 y.f4 y.f5 y.f6 y.f7) R → Ev (fun k => impl_written.l0 k x3 y.f6 (l.length : Int) (i : Int) y.f0 y.f1 y.f2 y.f3 y.f4 y.f5 y.f6 y.f7) R) := by
 have hyn : y.f6.length = l.length := by rw [hyl, List.length_map]
 induction m with
 | zero =>
  intro i x3 hi hd hb
  have := sumOf_nonneg wNode_n (l.drop i)
  have : i = l.length := by omega
  subst this
  exact ⟨x3, by omega, fun R h => h, fun R h => h⟩
 | succ m ih =>
  intro i x3 hi hd hb
  have hlt : i < l.length := by omega
  have hrd := rd_INode y.f6 i (by omega)
  have hel : y.f6[i]'(by omega) = cNo l[i] := by simp only [hyl, List.getElem_map]
  rw [hel] at hrd
  have w1 : wrap64 ((i : Int) + 1) = ((i + 1 : Nat) : Int) := by rw [w64 (by omega) (by omega)]; omega
  have hsd := sumOf_drop wNode l i hlt
  have hn := sumOf_nonneg wNode_n (l.drop (i + 1))
  obtain ⟨t, t1, t2, t3⟩ := hq l[i] (List.getElem_mem hlt)
  generalize l[i] = z at *
  have hsz : (x3 ++ t).size = x3.size + t.size := ByteArray.size_append
  have hwn := wNode_n z
  obtain ⟨s, s1, s2, s3⟩ := ih (i + 1) (x3 ++ t) (by omega) (by omega) (by omega)
  refine ⟨s, by omega, fun R h => ?_, fun R h => ?_⟩
  ·refine Ev.step (fun k => ?_) (Ev.bind t1 (f := fun k t => if x3.size + t.size ≤ 9223372036854775807 then spec_l9Write.l0 k (x3 ++ t) ((i + 1 : Nat) : Int) y.f0 y.f1 y.f2 y.f3 y.f4 y.f5 y.f6 y.f7 else none) ?_)
   ·simp only [spec_l9Write.l0]
    rw [if_pos (by omega), if_pos (by omega), hrd, w1]
   ·exact Ev.congr (fun k => by rw [if_pos (by omega)]) (s2 R h)
  ·refine Ev.step (fun k => ?_) (Ev.bind t2 (f := fun k t => if x3.size + t.size ≤ 9223372036854775807 then impl_written.l0 k (x3 ++ t) y.f6 (l.length : Int) ((i + 1 : Nat) : Int) y.f0 y.f1 y.f2 y.f3 y.f4 y.f5 y.f6 y.f7 else none) ?_)
   ·simp only [impl_written.l0]
    rw [if_pos (by omega), if_pos (by omega), if_pos (by omega), hrd, w1]
   ·exact Ev.congr (fun k => by rw [if_pos (by omega)]) (s3 R h)
theorem write_same (x : S47) : wNode x ≤ 1048576 → WriteQ (cNo x) (wNode x) := by
 induction x using indL with
 | h x ih =>
  intro hw
  have hb := wNode_bounds x
  have hwe := wNode_eq x
  have nd := sumOf_nonneg wDecl_n x.f4
  have na := sumOf_nonneg wAttr_n x.f5
  have nk := sumOf_nonneg wNode_n x.f6
  have h4 : (cNo x).f4 = x.f4.map cDe := by rw [convNode_eq]
  have h5 : (cNo x).f5 = x.f5.map cAt := by rw [convNode_eq]
  have h6 : (cNo x).f6 = x.f6.map cNo := by rw [convNode_eq]
  have e1 : (cNo x).f1 = x.f1 := by rw [convNode_eq]
  have e2 : (cNo x).f2 = x.f2 := by rw [convNode_eq]
  have e7 : (cNo x).f7 = x.f7 := by rw [convNode_eq]
  have v4 : sumOf vD (cNo x).f4 = sumOf wDecl x.f4 := by rw [h4]; exact sumOf_map_eq (fun _ => rfl) _
  have v5 : sumOf vA (cNo x).f5 = sumOf wAttr x.f5 := by rw [h5]; exact sumOf_map_eq (fun _ => rfl) _
  have n4 : (cNo x).f4.length = x.f4.length := by rw [h4, List.length_map]
  have n5 : (cNo x).f5.length = x.f5.length := by rw [h5, List.length_map]
  have n6 : (cNo x).f6.length = x.f6.length := by rw [h6, List.length_map]
  have hz0 : (⟨#[]⟩ : ByteArray).size = 0 := rfl
  have hz1 : (⟨#[60]⟩ : ByteArray).size = 1 := rfl
  obtain ⟨s, s1, s2, s3⟩ := kidsw_l (cNo x) x.f6 h6 (by omega) (by omega) (fun y hy => ih y hy (by have := hb.2.2.2.2 y hy; omega)) x.f6.length 0 (⟨#[]⟩ : ByteArray) (by omega) (by omega) (by rw [List.drop_zero]; omega)
  rw [List.drop_zero] at s1
  rw [← e1, ← e2, ← e7, ← v4, ← v5, ← n4, ← n5, ← n6] at hwe
  rw [← n6] at s2 s3 s1
  generalize sumOf wNode x.f6 = kw at *
  generalize wNode x = W at *
  generalize cNo x = y at *
  clear ih hb e1 e2 e7 v4 v5 n4 n5 n6 h4 h5 h6
  have nd' := sumOf_nonneg vD_nonneg y.f4
  have na' := sumOf_nonneg vA_nonneg y.f5
  -- the program: the children first
  have hi : ∀ R, Ev (fun k => impl_written.l0 k s y.f6 (y.f6.length : Int) (y.f6.length : Int) y.f0 y.f1 y.f2 y.f3 y.f4 y.f5 y.f6 y.f7) R → Ev (fun k => impl_written.f k y.f0 y.f1 y.f2 y.f3 y.f4 y.f5 y.f6 y.f7) R := fun R h => Ev.step (fun k => by simp only [impl_written.f]; rfl) (s3 R h)
  by_cases k2 : y.f0 = 2
  ·obtain ⟨e, t1, t2, t3⟩ := escT_both y.f7 (by omega)
   refine ⟨e, Ev.step (fun k => ?_) (Ev.bind t1 (Ev.now _)), hi _ (Ev.step (f := fun _ => some e) (fun k => ?_) (Ev.now _)), by omega⟩
   ·simp only [spec_l9Write.f]
    rw [if_pos k2]
   ·simp only [impl_written.l0]
    rw [if_neg (by omega), if_neg (by omega), if_pos k2, t2, Option.bind_some]
  by_cases k3 : y.f0 = 3
  ·refine ⟨((⟨#[60, 33, 45, 45]⟩ : ByteArray) ++ y.f7) ++ (⟨#[45, 45, 62]⟩ : ByteArray), Ev.step (fun k => ?_) (Ev.now _), hi _ (Ev.step (fun k => ?_) (Ev.now _)), ?_⟩
   ·simp only [spec_l9Write.f, ByteArray.size_append, zsz, List.size_toArray, List.length_cons, List.length_nil]
    rw [if_neg k2, if_pos k3, if_pos (by omega), if_pos (by omega)]
   ·simp only [impl_written.l0, ByteArray.size_append, zsz, List.size_toArray, List.length_cons, List.length_nil]
    rw [if_neg (by omega), if_neg (by omega), if_neg k2, if_pos k3, if_pos (by omega), if_pos (by omega)]
   ·simp only [ByteArray.size_append, zsz, List.size_toArray, List.length_cons, List.length_nil]
    omega
  by_cases k4 : y.f0 = 4
  ·by_cases h7 : y.f7.toList = ([] : List UInt8)
   ·refine ⟨((⟨#[60, 63]⟩ : ByteArray) ++ y.f2) ++ (⟨#[63, 62]⟩ : ByteArray), Ev.step (fun k => ?_) (Ev.now _), hi _ (Ev.step (fun k => ?_) (Ev.now _)), ?_⟩
    ·simp only [spec_l9Write.f, ByteArray.size_append, zsz, List.size_toArray, List.length_cons, List.length_nil]
     rw [if_neg k2, if_neg k3, if_pos k4, if_pos h7, if_pos (by omega), if_pos (by omega)]
    ·simp only [impl_written.l0, ByteArray.size_append, zsz, List.size_toArray, List.length_cons, List.length_nil]
     rw [if_neg (by omega), if_neg (by omega), if_neg k2, if_neg k3, if_pos k4, if_pos h7, if_pos (by omega), if_pos (by omega)]
    ·simp only [ByteArray.size_append, zsz, List.size_toArray, List.length_cons, List.length_nil]
     omega
   ·refine ⟨((((⟨#[60, 63]⟩ : ByteArray) ++ y.f2) ++ (⟨#[32]⟩ : ByteArray)) ++ y.f7) ++ (⟨#[63, 62]⟩ : ByteArray), Ev.step (fun k => ?_) (Ev.now _), hi _ (Ev.step (fun k => ?_) (Ev.now _)), ?_⟩
    ·simp only [spec_l9Write.f, ByteArray.size_append, zsz, List.size_toArray, List.length_cons, List.length_nil]
     rw [if_neg k2, if_neg k3, if_pos k4, if_neg h7, if_pos (by omega), if_pos (by omega), if_pos (by omega), if_pos (by omega)]
    ·simp only [impl_written.l0, ByteArray.size_append, zsz, List.size_toArray, List.length_cons, List.length_nil]
     rw [if_neg (by omega), if_neg (by omega), if_neg k2, if_neg k3, if_pos k4, if_neg h7, if_pos (by omega), if_pos (by omega), if_pos (by omega), if_pos (by omega)]
    ·simp only [ByteArray.size_append, zsz, List.size_toArray, List.length_cons, List.length_nil]
     omega
  have hs : ∀ R, Ev (fun k => spec_l9Write.l0 k s (y.f6.length : Int) y.f0 y.f1 y.f2 y.f3 y.f4 y.f5 y.f6 y.f7) R → Ev (fun k => spec_l9Write.f k y.f0 y.f1 y.f2 y.f3 y.f4 y.f5 y.f6 y.f7) R := fun R h => Ev.step (fun k => by simp only [spec_l9Write.f]; rw [if_neg k2, if_neg k3, if_neg k4]; rfl) (s2 R h)
  by_cases k0 : y.f0 = 0
  ·refine ⟨s, hs _ (Ev.step (fun k => ?_) (Ev.now _)), hi _ (Ev.step (fun k => ?_) (Ev.now _)), by omega⟩
   ·simp only [spec_l9Write.l0]
    rw [if_neg (by omega), if_pos k0]
   ·simp only [impl_written.l0]
    rw [if_neg (by omega), if_pos k0]
  obtain ⟨j, j1, j2, j3⟩ := join_sz y.f1 y.f2 (by omega) (by omega)
  have hjz : ((⟨#[60]⟩ : ByteArray) ++ j).size = 1 + j.size := by rw [ByteArray.size_append, hz1]
  obtain ⟨d, d1, d2, d3⟩ := decl_l y s j (by omega) (by omega) y.f4.length 0 ((⟨#[60]⟩ : ByteArray) ++ j) (by omega) (by omega) (by rw [List.drop_zero]; omega)
  rw [List.drop_zero] at d1
  obtain ⟨r, r1, r2, r3⟩ := attr_l y s j (by omega) (by omega) (by omega) (by omega) y.f5.length 0 d (by omega) (by omega) (by rw [List.drop_zero]; omega)
  rw [List.drop_zero] at r1
  refine ⟨r, hs _ (Ev.step (fun k => ?_) (Ev.bind j1 (f := fun k t => if 1 + t.size ≤ 9223372036854775807 then spec_l9Write.l1 k s t ((⟨#[60]⟩ : ByteArray) ++ t) 0 y.f0 y.f1 y.f2 y.f3 y.f4 y.f5 y.f6 y.f7 else none) (Ev.congr (fun k => by rw [if_pos (by omega)]; rfl) (d2 _ r2)))), hi _ (Ev.step (fun k => ?_) (Ev.bind j2 (f := fun k t => if 1 + t.size ≤ 9223372036854775807 then impl_written.l1 k s t ((⟨#[60]⟩ : ByteArray) ++ t) y.f4 (y.f4.length : Int) 0 y.f0 y.f1 y.f2 y.f3 y.f4 y.f5 y.f6 y.f7 else none) (Ev.congr (fun k => by rw [if_pos (by omega)]; rfl) (d3 _ r3)))), by omega⟩
  ·simp only [spec_l9Write.l0]
   rw [if_neg (by omega), if_neg k0]
  ·simp only [impl_written.l0]
   rw [if_neg (by omega), if_neg k0, if_neg k2, if_neg k3, if_neg k4]
theorem writenode_same (x : S47) (hw : wNode x ≤ 1048576) : ∃ r : ByteArray, Ev (fun k => spec_WriteNode.f k (cNo x).f0 (cNo x).f1 (cNo x).f2 (cNo x).f3 (cNo x).f4 (cNo x).f5 (cNo x).f6 (cNo x).f7) r ∧ Ev (fun k => impl_WriteNode.f k (cNo x).f0 (cNo x).f1 (cNo x).f2 (cNo x).f3 (cNo x).f4 (cNo x).f5 (cNo x).f6 (cNo x).f7) r ∧ (r.size : Int) ≤ 16 * wNode x + 16 := by
 obtain ⟨a, a1, a2⟩ := nodeok_same x hw
 obtain ⟨b, b1, b2, b3⟩ := write_same x hw
 have h0 := wNode_n x
 have hz : (⟨#[]⟩ : ByteArray).size = 0 := rfl
 generalize cNo x = y at *
 refine ⟨if a = true then b else ⟨#[]⟩, Ev.congr (fun k => by simp only [spec_WriteNode.f]; rfl) (Ev.bind a1 ?_), Ev.congr (fun k => by simp only [impl_WriteNode.f]; rfl) (Ev.bind a2 ?_), by split <;> omega⟩
 ·cases a with
  | false => exact Ev.congr (fun k => by rw [if_neg (by simp)]; try rfl) (Ev.now _)
  | true => exact Ev.congr (fun k => by rw [if_pos rfl]) (Ev.bind b1 (Ev.now _))
 ·cases a with
  | false => exact Ev.congr (fun k => by rw [if_neg (by simp)]; try rfl) (Ev.now _)
  | true => exact Ev.congr (fun k => by rw [if_pos rfl]) (Ev.bind b2 (Ev.now _))
/-! ### the sum of a text -/
theorem andU32 (n : Int) : Go.bits .and .i64 n 4294967295 = n % 4294967296 := by
 have h63 : (BitVec.ofInt 64 4294967295).toNat = 2 ^ 32 - 1 := by decide
 have key : (BitVec.ofInt 64 n &&& BitVec.ofInt 64 4294967295).toNat = (n % ((2 ^ 64 : Nat) : Int)).toNat % 2 ^ 32 := by
  rw [BitVec.toNat_and, BitVec.toNat_ofInt, h63, Nat.and_two_pow_sub_one_eq_mod]
 show IntKind.i64.wrap ((BitVec.ofInt 64 n &&& BitVec.ofInt 64 4294967295).toNat : Nat) = n % 4294967296
 rw [key, IntKind.wrap_i64]
 omega
def hstep (h : Int) (b : UInt8) : Int := ((Go.bits .xor .i64 h (b.toNat : Int)) % 4294967296 * 16777619) % 4294967296
def hsum : List UInt8 → Int → Int
 | [], h => h
 | b :: bs, h => hsum bs (hstep h b)
theorem hsum_impl : ∀ (xs : List UInt8) (h : Int), impl_HashOf.sum xs h = some (hsum xs h)
 | [], _ => rfl
 | b :: bs, h => by
  show (impl_summed.f h (b.toNat : Int)).bind (impl_HashOf.sum bs) = _
  unfold impl_summed.f
  rw [Option.bind_some]
  exact hsum_impl bs _
theorem bt_byte (s : ByteArray) (i : Nat) (h : i < s.size) : wrap64 (bt s (i : Int)) = ((s.data.toList[i]'(by rw [Array.length_toList]; exact h)).toNat : Int) := by
 have e : bt s (i : Int) = ((s.data.toList[i]'(by rw [Array.length_toList]; exact h)).toNat : Int) := by
  unfold bt
  rw [dif_pos (by simpa using h)]
  simp
  rfl
 have hb := (s.data.toList[i]'(by rw [Array.length_toList]; exact h)).toNat_lt
 rw [e]
 unfold wrap64
 omega
theorem hstep_spec (h : Int) (b : UInt8) : Go.bits .and .i64 (wrap64 ((Go.bits .xor .i64 h (b.toNat : Int)) * 16777619)) 4294967295 = hstep h b := by
 rw [andU32]
 unfold hstep wrap64
 generalize Go.bits .xor .i64 h (b.toNat : Int) = x
 omega
theorem hash_l (s : ByteArray) (hs : s.size ≤ 1000000000) (d : Nat) : ∀ (i : Nat) (h : Int), i ≤ s.size → s.size - i = d → Ev (fun k => spec_HashOf.l0 k s h (i : Int)) (hsum (s.data.toList.drop i) h) := by
 have hz : s.data.toList.length = s.size := Array.length_toList
 induction d with
 | zero =>
  intro i h hi hd
  refine Ev.step (fun k => ?_) (Ev.now _)
  simp only [spec_HashOf.l0]
  rw [if_neg (by omega), List.drop_eq_nil_of_le (by omega)]
  rfl
 | succ d ih =>
  intro i h hi hd
  have w1 : wrap64 ((i : Int) + 1) = ((i + 1 : Nat) : Int) := by rw [w64 (by omega) (by omega)]; omega
  rw [List.drop_eq_getElem_cons (by omega)]
  refine Ev.step (fun k => ?_) (ih (i + 1) (hstep h (s.data.toList[i]'(by omega))) (by omega) (by omega))
  simp only [spec_HashOf.l0]
  rw [if_pos (by omega), if_pos (by omega), bt_byte s i (by omega), hstep_spec, w1]
theorem hashof_same (x : S47) (hw : wNode x ≤ 1048576) : ∃ r : Int, Ev (fun k => spec_HashOf.f k (cNo x).f0 (cNo x).f1 (cNo x).f2 (cNo x).f3 (cNo x).f4 (cNo x).f5 (cNo x).f6 (cNo x).f7) r ∧ Ev (fun k => impl_HashOf.f k (cNo x).f0 (cNo x).f1 (cNo x).f2 (cNo x).f3 (cNo x).f4 (cNo x).f5 (cNo x).f6 (cNo x).f7) r := by
 obtain ⟨s, s1, s2, s3⟩ := writenode_same x hw
 have hb : s.size ≤ 1000000000 := by omega
 generalize cNo x = y at *
 refine ⟨hsum s.data.toList 2166136261, Ev.congr (fun k => by simp only [spec_HashOf.f]; rfl) (Ev.bind s1 ?_), Ev.congr (fun k => by simp only [impl_HashOf.f]; rfl) (Ev.bind s2 ?_)⟩
 ·have := hash_l s hb s.size 0 2166136261 (by omega) (by omega)
  rw [List.drop_zero] at this
  exact this
 ·exact Ev.congr (fun k => by rw [if_pos (by omega), hsum_impl]) (Ev.now _)
/-! ### how many sums there are -/
theorem idxInt_l (xs : List Int) (a : Int) (hl : xs.length ≤ 1048576) (d : Nat) : ∀ (i : Nat), i ≤ xs.length → xs.length - i = d →
  ∃ r : Int, Ev (fun k => slices_Index_int_int.l0 k xs a (xs.length : Int) (i : Int)) r ∧ (0 ≤ r ↔ a ∈ xs.drop i) := by
 induction d with
 | zero =>
  intro i hi hd
  refine ⟨-1, Ev.step (fun k => ?_) (Ev.now _), ?_⟩
  ·simp only [slices_Index_int_int.l0]
   rw [if_neg (by omega)]
  ·rw [List.drop_eq_nil_of_le (by omega)]
   simp
 | succ d ih =>
  intro i hi hd
  have w1 : wrap64 ((i : Int) + 1) = ((i + 1 : Nat) : Int) := by rw [w64 (by omega) (by omega)]; omega
  have hr : rd xs (i : Int) = xs[i]'(by omega) := by
   simp [rd, List.getD_eq_getElem?_getD, show i < xs.length by omega]
  have hd' := List.drop_eq_getElem_cons (l := xs) (i := i) (by omega)
  by_cases e : a = xs[i]'(by omega)
  ·refine ⟨(i : Int), Ev.step (fun k => ?_) (Ev.now _), ?_⟩
   ·simp only [slices_Index_int_int.l0]
    rw [if_pos (by omega), if_pos (by omega), if_pos (by omega), hr, if_pos e]
   ·rw [hd', ← e]
    simp
  ·obtain ⟨r, r1, r2⟩ := ih (i + 1) (by omega) (by omega)
   refine ⟨r, Ev.step (fun k => ?_) r1, ?_⟩
   ·simp only [slices_Index_int_int.l0]
    rw [if_pos (by omega), if_pos (by omega), if_pos (by omega), hr, if_neg e, w1]
   ·rw [r2, hd', List.mem_cons]
    constructor
    ·exact .inr
    ·rintro (h | h)
     ·exact absurd h e
     ·exact h
theorem hasInt_f (xs : List Int) (a : Int) (hl : xs.length ≤ 1048576) : Ev (fun k => slices_Contains_int_int.f k xs a) (decide (a ∈ xs)) := by
 obtain ⟨r, r1, r2⟩ := idxInt_l xs a hl xs.length 0 (by omega) (by omega)
 rw [List.drop_zero] at r2
 refine Ev.congr (fun k => by simp only [slices_Contains_int_int.f]; rfl) (Ev.bind (a := r) r1 ?_)
 exact Ev.congr (fun k => by rw [show decide (r ≥ 0) = decide (a ∈ xs) from decide_eq_decide.2 r2]) (Ev.now _)
noncomputable def hv (x : S47) : Int := if h : wNode x ≤ 1048576 then (hashof_same x h).choose else 0
theorem hv_spec (x : S47) (hw : wNode x ≤ 1048576) : Ev (fun k => spec_HashOf.f k (cNo x).f0 (cNo x).f1 (cNo x).f2 (cNo x).f3 (cNo x).f4 (cNo x).f5 (cNo x).f6 (cNo x).f7) (hv x) ∧ Ev (fun k => impl_HashOf.f k (cNo x).f0 (cNo x).f1 (cNo x).f2 (cNo x).f3 (cNo x).f4 (cNo x).f5 (cNo x).f6 (cNo x).f7) (hv x) := by
 unfold hv
 rw [dif_pos hw]
 exact (hashof_same x hw).choose_spec
noncomputable def others (l : List S47) (h : Int) : Bool := l.all fun x => hv x != h
theorem ap_l1 (l : List S47) (hl : l.length ≤ 1048576) (hw : ∀ x ∈ l, wNode x ≤ 1048576) (i : Nat) (hi : i < l.length) (n r : Int) (d : Nat) : ∀ (j : Nat) (b : Bool), j ≤ i → i - j = d →
  Ev (fun k => spec_Apart.l0 k (l.map cNo) (if (b && others ((l.take i).drop j) (hv l[i])) = true then wrap64 (n + 1) else n) ((i + 1 : Nat) : Int)) r → Ev (fun k => spec_Apart.l1 k (l.map cNo) n (i : Int) b (j : Int)) r := by
 have hn : (l.map cNo).length = l.length := List.length_map _
 have w2 : wrap64 ((i : Int) + 1) = ((i + 1 : Nat) : Int) := by rw [w64 (by omega) (by omega)]; omega
 have hri := rd_INode (l.map cNo) i (by omega)
 rw [List.getElem_map] at hri
 induction d with
 | zero =>
  intro j b hj hd h
  rw [List.drop_eq_nil_of_le (by rw [List.length_take]; omega), show others [] (hv l[i]) = true from rfl, Bool.and_true] at h
  refine Ev.step (fun k => ?_) h
  simp only [spec_Apart.l1]
  rw [if_neg (by omega), w2]
  split <;> rfl
 | succ d ih =>
  intro j b hj hd h
  have w1 : wrap64 ((j : Int) + 1) = ((j + 1 : Nat) : Int) := by rw [w64 (by omega) (by omega)]; omega
  have hrj := rd_INode (l.map cNo) j (by omega)
  rw [List.getElem_map] at hrj
  have hd' : (l.take i).drop j = l[j] :: (l.take i).drop (j + 1) := by
   rw [List.drop_eq_getElem_cons (by rw [List.length_take]; omega), List.getElem_take]
  rw [hd', show others (l[j] :: (l.take i).drop (j + 1)) (hv l[i]) = ((hv l[j] != hv l[i]) && others ((l.take i).drop (j + 1)) (hv l[i])) from rfl] at h
  cases b with
  | false =>
   refine Ev.step (fun k => ?_) (ih (j + 1) false (by omega) (by omega) (by simpa using h))
   simp only [spec_Apart.l1]
   rw [if_pos (by omega), if_neg (by simp), w1]
  | true =>
   rw [Bool.true_and] at h
   have hj1 := (hv_spec l[j] (hw _ (List.getElem_mem (by omega)))).1
   have hi1 := (hv_spec l[i] (hw _ (List.getElem_mem (by omega)))).1
   have hk := ih (j + 1) (hv l[j] != hv l[i]) (by omega) (by omega) h
   refine Ev.step (fun k => ?_) (Ev.bind hj1 (f := fun k t => (spec_HashOf.f k (cNo l[i]).f0 (cNo l[i]).f1 (cNo l[i]).f2 (cNo l[i]).f3 (cNo l[i]).f4 (cNo l[i]).f5 (cNo l[i]).f6 (cNo l[i]).f7).bind fun u => spec_Apart.l1 k (l.map cNo) n (i : Int) (t != u) ((j + 1 : Nat) : Int)) (Ev.bind hi1 hk))
   simp only [spec_Apart.l1]
   rw [if_pos (by omega), if_pos trivial, if_pos (by omega), if_pos (by omega), hrj, hri, w1]
   refine congrArg _ (funext fun t => ?_)
   rw [if_pos (by omega), if_pos (by omega)]
theorem ap_l (l : List S47) (hl : l.length ≤ 1048576) (hw : ∀ x ∈ l, wNode x ≤ 1048576) (d : Nat) : ∀ (i : Nat) (xs : List Int), i ≤ l.length → l.length - i = d → xs.length ≤ i → (∀ v, v ∈ xs ↔ ∃ x ∈ l.take i, hv x = v) →
  ∃ r : Int, Ev (fun k => spec_Apart.l0 k (l.map cNo) (xs.length : Int) (i : Int)) r ∧ Ev (fun k => impl_Apart.l0 k xs (l.map cNo) (l.length : Int) (i : Int)) r := by
 have hn : (l.map cNo).length = l.length := List.length_map _
 induction d with
 | zero =>
  intro i xs hi hd hx hv_
  refine ⟨(xs.length : Int), Ev.step (fun k => ?_) (Ev.now _), Ev.step (fun k => ?_) (Ev.now _)⟩
  ·simp only [spec_Apart.l0]
   rw [if_neg (by omega)]
  ·simp only [impl_Apart.l0]
   rw [if_neg (by omega)]
 | succ d ih =>
  intro i xs hi hd hx hm
  have w2 : wrap64 ((i : Int) + 1) = ((i + 1 : Nat) : Int) := by rw [w64 (by omega) (by omega)]; omega
  have w3 : wrap64 ((xs.length : Int) + 1) = ((xs.length + 1 : Nat) : Int) := by rw [w64 (by omega) (by omega)]; omega
  have hri := rd_INode (l.map cNo) i (by omega)
  rw [List.getElem_map] at hri
  have hi2 := (hv_spec l[i] (hw _ (List.getElem_mem (by omega)))).2
  have hc := hasInt_f xs (hv l[i]) (by omega)
  have ht : l.take (i + 1) = l.take i ++ [l[i]] := by rw [List.take_succ_eq_append_getElem (by omega)]
  by_cases e : hv l[i] ∈ xs
  ·obtain ⟨r, r1, r2⟩ := ih (i + 1) xs (by omega) (by omega) (by omega) (fun v => by
    rw [hm v, ht]
    constructor
    ·rintro ⟨x, h1, h2⟩
     exact ⟨x, List.mem_append_left _ h1, h2⟩
    ·rintro ⟨x, h1, h2⟩
     rcases List.mem_append.1 h1 with h1 | h1
     ·exact ⟨x, h1, h2⟩
     ·rw [List.mem_singleton] at h1
      subst h1
      subst h2
      exact (hm _).1 e)
   have ho : others (l.take i) (hv l[i]) = false := by
    obtain ⟨x, h1, h2⟩ := (hm _).1 e
    rw [others, List.all_eq_false]
    exact ⟨x, h1, by simp [h2]⟩
   refine ⟨r, Ev.step (fun k => ?_) (ap_l1 l hl hw i (by omega) (xs.length : Int) r i 0 true (by omega) (by omega) ?_), Ev.step (fun k => ?_) (Ev.bind hi2 (f := fun k t => (slices_Contains_int_int.f k xs t).bind fun u => if u = true then impl_Apart.l0 k xs (l.map cNo) (l.length : Int) ((i + 1 : Nat) : Int) else if xs.length < 17592186044416 then impl_Apart.l0 k (xs ++ [t]) (l.map cNo) (l.length : Int) ((i + 1 : Nat) : Int) else none) (Ev.bind hc ?_))⟩
   ·simp only [spec_Apart.l0]
    rw [if_pos (by omega)]
    rfl
   ·rw [List.drop_zero, ho, if_neg (by simp)]
    exact r1
   ·simp only [impl_Apart.l0]
    rw [if_pos (by omega), if_pos (by omega), if_pos (by omega), hri, w2]
   ·rw [decide_eq_true e]
    exact Ev.congr (fun k => by rw [if_pos rfl]) r2
  ·obtain ⟨r, r1, r2⟩ := ih (i + 1) (xs ++ [hv l[i]]) (by omega) (by omega) (by rw [List.length_append, List.length_singleton]; omega) (fun v => by
    rw [List.mem_append, List.mem_singleton, hm v, ht]
    constructor
    ·rintro (⟨x, h1, h2⟩ | rfl)
     ·exact ⟨x, List.mem_append_left _ h1, h2⟩
     ·exact ⟨_, List.mem_append_right _ (List.mem_singleton.2 rfl), rfl⟩
    ·rintro ⟨x, h1, h2⟩
     rcases List.mem_append.1 h1 with h1 | h1
     ·exact .inl ⟨x, h1, h2⟩
     ·rw [List.mem_singleton] at h1
      subst h1
      exact .inr h2.symm)
   have ho : others (l.take i) (hv l[i]) = true := by
    rw [others, List.all_eq_true]
    intro x hx
    have : hv x ≠ hv l[i] := fun h => e ((hm _).2 ⟨x, hx, h⟩)
    simpa using this
   refine ⟨r, Ev.step (fun k => ?_) (ap_l1 l hl hw i (by omega) (xs.length : Int) r i 0 true (by omega) (by omega) ?_), Ev.step (fun k => ?_) (Ev.bind hi2 (f := fun k t => (slices_Contains_int_int.f k xs t).bind fun u => if u = true then impl_Apart.l0 k xs (l.map cNo) (l.length : Int) ((i + 1 : Nat) : Int) else if xs.length < 17592186044416 then impl_Apart.l0 k (xs ++ [t]) (l.map cNo) (l.length : Int) ((i + 1 : Nat) : Int) else none) (Ev.bind hc ?_))⟩
   ·simp only [spec_Apart.l0]
    rw [if_pos (by omega)]
    rfl
   ·rw [List.drop_zero, ho, if_pos (by simp), w3]
    rw [List.length_append, List.length_singleton] at r1
    exact r1
   ·simp only [impl_Apart.l0]
    rw [if_pos (by omega), if_pos (by omega), if_pos (by omega), hri, w2]
   ·rw [decide_eq_false e]
    exact Ev.congr (fun k => by rw [if_neg (by simp), if_pos (by omega)]) r2
theorem FnExactApart : laws_FnExactApart.Pure := by
 intro l hw
 obtain ⟨r, hr, hrw⟩ := szNodeS_f l hw 1048576 (by omega) (by omega)
 refine Ev.rounds (r := true) ?_
 refine Ev.congr (fun k => by simp only [laws_FnExactApart.f]; rfl) (Ev.bind hr ?_)
 by_cases hn : r < 0
 ·exact Ev.congr (fun k => by rw [if_pos hn]) (Ev.now _)
 have hwn := hrw (by omega)
 have h0 := sumOf_nonneg wNode_n l
 have hm : ∀ x ∈ l, wNode x ≤ 1048576 := fun x hx => by have := sumOf_mem wNode_n hx; omega
 have ht := toNodeS_f l (by omega) hm
 obtain ⟨c, hs, hi⟩ := ap_l l (by omega) hm l.length 0 [] (by omega) (by omega) (by simp) (fun v => by simp)
 have he := eqNodeS_f (l.map cNo) (by rw [List.length_map]; omega) (fun z hz => by obtain ⟨x, hx, rfl⟩ := List.mem_map.1 hz; have := hm x hx; have := vNode_conv x; omega)
 have hs' : Ev (fun k => spec_Apart.f k (l.map cNo)) c := Ev.congr (fun k => rfl) hs
 have hi' : Ev (fun k => impl_Apart.f k (l.map cNo)) c := Ev.congr (fun k => by unfold impl_Apart.f; rw [List.length_map]; rfl) hi
 refine Ev.congr (fun k => by rw [if_neg hn]) (Ev.bind ht (Ev.bind hs' (Ev.bind ht (Ev.bind hi' ?_))))
 refine Ev.congr (fun k => by rw [if_pos rfl]) (Ev.bind ht (Ev.bind he ?_))
 exact Ev.congr (fun k => by rw [if_pos rfl]) (Ev.now _)

end FnExactApart_
theorem FnExactApart : laws_FnExactApart.Pure := FnExactApart_.FnExactApart
end Go.Proofs.YtalionlkjdgciaaGreatDoor.Pure
