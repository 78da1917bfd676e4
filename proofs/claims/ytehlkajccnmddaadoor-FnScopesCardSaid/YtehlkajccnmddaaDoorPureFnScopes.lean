/- What is drawn for scopes: what stands within counts, a part ahead that means a space is found again, and the answers are the reference's.
Conditions: none. -/
import Derived.Test.YtehlkajccnmddaaDoorSaidFnScopes
import Derived.Lib.RuneCountTail
import Derived.Lib.DecodeN
import Derived.Shelf.Unicode.DecodeSlow
import Derived.Lib.Strings
import Derived.Test.YtehlkajccnmddaaDoorLists
namespace Go.Proofs.YtehlkajccnmddaaDoor.Pure
open Go.RowKit Go.Proofs.YtehlkajccnmddaaDoor.PZ Go.Proofs.YtehlkajccnmddaaDoorW.PrintWords Go.Proofs.YtehlkajccnmddaaDoorW.PrintLast Go.Proofs.YtehlkajccnmddaaDoor.Lists
set_option linter.unusedVariables false
set_option linter.unusedSimpArgs false

namespace FnScopes_
theorem w64 {i : Int} (h0 : -9223372036854775808 ≤ i) (h1 : i ≤ 9223372036854775807) : wrap64 i = i := by unfold wrap64; omega
def inR (n : Int) (p : Int × Int) : Bool := decide (p.1 ≤ n) && decide (n ≤ p.2)
theorem l1In_f (n lo hi : Int) : spec_l1In.f n lo hi = some (inR n (lo, hi)) := by
 unfold spec_l1In.f inR
 by_cases h : n ≥ lo
 ·rw [if_pos h]
  simp [h]
 ·rw [if_neg h]
  have : ¬ lo ≤ n := h
  simp [this]
theorem IsSign_f (n : Int) : spec_IsSign.f n = some (impl_IsSign.l.any (inR n)) := by
 unfold spec_IsSign.f
 simp only [l1In_f, Option.bind_some]
 have e : impl_IsSign.l.any (inR n) = (inR n (9, 10) || (inR n (13, 13) || (inR n (32, 55295) || (inR n (57344, 65533) || (inR n (65536, 1114111) || false))))) := rfl
 rw [e]
 have h1 : inR n (9, 10) = decide (n = 9 ∨ n = 10) := by
  unfold inR
  rw [Bool.eq_iff_iff]
  simp
  omega
 have h2 : inR n (13, 13) = decide (n = 13) := by
  unfold inR
  rw [Bool.eq_iff_iff]
  simp
  omega
 rw [h1, h2]
 by_cases c1 : n = 9
 ·simp [c1]
 by_cases c2 : n = 10
 ·simp [c2]
 by_cases c3 : n = 13
 ·simp [c3]
 rw [if_neg c1, if_neg c2, if_neg c3]
 simp only [c1, c2, c3, or_self, decide_false, Bool.false_or, Bool.or_false]
 cases inR n (32, 55295) <;> cases inR n (57344, 65533) <;> simp
def flat2 (zs : List (Int × Int)) : List Int := zs.flatMap fun p => [p.1, p.2]
theorem flat2_length (zs : List (Int × Int)) : (flat2 zs).length = 2 * zs.length := by
 induction zs with
 | nil => rfl
 | cons p zs ih => simp only [flat2, List.flatMap_cons, List.length_append, List.length_cons, List.length_nil] at ih ⊢; omega
theorem flat2_get (zs : List (Int × Int)) : ∀ (j : Nat) (p : Int × Int), zs[j]? = some p → (flat2 zs)[2 * j]? = some p.1 ∧ (flat2 zs)[2 * j + 1]? = some p.2 := by
 induction zs with
 | nil => intro j p h; simp at h
 | cons q zs ih =>
  intro j p h
  cases j with
  | zero =>
   simp at h
   subst h
   simp [flat2]
  | succ j =>
   have := ih j p (by simpa using h)
   simp only [flat2, List.flatMap_cons] at this ⊢
   rw [List.getElem?_append_right (by simp; omega), List.getElem?_append_right (by simp; omega)]
   have e1 : 2 * (j + 1) - [q.1, q.2].length = 2 * j := by simp; omega
   have e2 : 2 * (j + 1) + 1 - [q.1, q.2].length = 2 * j + 1 := by simp; omega
   rw [e1, e2]
   exact this
theorem ranges_l (n : Int) (zs : List (Int × Int)) (hz : zs.length ≤ 1000) (d : Nat) : ∀ j : Nat, j ≤ zs.length → zs.length - j = d →
  Ev (fun k => spec_l1Ranges.l0 k n (flat2 zs) ((2 * j : Nat) : Int)) ((zs.drop j).any (inR n)) := by
 have hlen := flat2_length zs
 induction d with
 | zero =>
  intro j hj hd
  have e : zs.drop j = [] := List.drop_eq_nil_of_le (by omega)
  rw [e]
  refine Ev.step (fun k => ?_) (Ev.now _)
  simp only [spec_l1Ranges.l0]
  rw [if_neg (by rw [w64 (by omega) (by omega)]; omega)]
  rfl
 | succ d ih =>
  intro j hj hd
  have hlt : j < zs.length := by omega
  obtain ⟨g1, g2⟩ := flat2_get zs j zs[j] (List.getElem?_eq_getElem hlt)
  have r1 : rd (flat2 zs) ((2 * j : Nat) : Int) = zs[j].1 := by simp only [rd, Int.toNat_natCast, List.getD_eq_getElem?_getD, g1, Option.getD_some]
  have r2 : rd (flat2 zs) (((2 * j : Nat) : Int) + 1) = zs[j].2 := by
   have e : (((2 * j : Nat) : Int) + 1).toNat = 2 * j + 1 := by omega
   simp only [rd, e, List.getD_eq_getElem?_getD, g2, Option.getD_some]
  have e : zs.drop j = zs[j] :: zs.drop (j + 1) := List.drop_eq_getElem_cons hlt
  rw [e, List.any_cons]
  have hs : ∀ k, spec_l1Ranges.l0 (k + 1) n (flat2 zs) ((2 * j : Nat) : Int) = if inR n zs[j] = true then some true else spec_l1Ranges.l0 k n (flat2 zs) ((2 * (j + 1) : Nat) : Int) := fun k => by
   simp only [spec_l1Ranges.l0]
   rw [w64 (by omega) (by omega), if_pos (by omega), if_pos (by omega), if_pos (by omega), if_pos (by omega), r1, r2, l1In_f]
   simp only [Option.bind_some]
   rw [w64 (by omega) (by omega)]
   rfl
  cases hq : inR n zs[j] with
  | true =>
   refine Ev.step (fun k => ?_) (Ev.now _)
   rw [hs, hq, if_pos rfl]
   rfl
  | false =>
   refine Ev.step (fun k => ?_) (ih (j + 1) (by omega) (by omega))
   rw [hs, hq, if_neg (by simp)]
theorem ranges_f (n : Int) (zs : List (Int × Int)) (hz : zs.length ≤ 1000) (l : List Int) (hl : l = flat2 zs) : Ev (fun k => spec_l1Ranges.f k n l) (zs.any (inR n)) := by
 subst hl
 exact Ev.congr (fun k => by simp [spec_l1Ranges.f]) (ranges_l n zs hz zs.length 0 (by omega) (by omega))
theorem IsStart_f (n : Int) : Ev (fun k => spec_IsStart.f k n) (impl_IsStart.l.any (inR n)) := by
 refine Ev.congr (g := fun k => spec_IsStart.f k n) (f := fun k => (spec_l1Ranges.f k n (flat2 impl_IsStart.l)).bind fun t => some t) (fun k => ?_) (Ev.bind (ranges_f n impl_IsStart.l (by decide) _ rfl) (Ev.now _))
 rfl
theorem IsPart_f (n : Int) : Ev (fun k => spec_IsPart.f k n) (impl_IsStart.l.any (inR n) || impl_IsPart.l.any (inR n)) := by
 refine Ev.congr (g := fun k => spec_IsPart.f k n) (f := fun k => (spec_IsStart.f k n).bind fun t => if t = true then some true else (spec_l1Ranges.f k n (flat2 impl_IsPart.l)).bind fun t => some t) (fun k => rfl) (Ev.bind (IsStart_f n) ?_)
 cases impl_IsStart.l.any (inR n) with
 | true => exact Ev.congr (fun k => by rw [if_pos rfl]; rfl) (Ev.now _)
 | false => exact Ev.congr (fun k => by rw [if_neg (by simp)]) (Ev.bind (ranges_f n impl_IsPart.l (by decide) _ rfl) (Ev.now _))
theorem bt_lt (s : ByteArray) (i : Int) : 0 ≤ bt s i ∧ bt s i < 256 := by
 unfold bt
 split
 ·have := (s[i.toNat]).toNat_lt
  omega
 ·omega
theorem get_bt (s : ByteArray) (i : Nat) : ((s.get! i).toNat : Int) = bt s (i : Int) := by
 unfold bt
 by_cases h : i < s.size
 ·rw [dif_pos (by simpa using h), Go.Proofs.Utf8W.get!_of_lt s i h]
  simp
 ·rw [dif_neg (by simpa using h)]
  rw [← Go.Lib.getD_get!', List.getD_eq_getElem?_getD, List.getElem?_eq_none (by rw [Array.length_toList]; exact Nat.le_of_not_lt h)]
  rfl
set_option maxRecDepth 100000 in
theorem and31 : ∀ x : Fin 256, Go.bits .and .i64 ((x.val : Nat) : Int) 31 = ((x.val % 32 : Nat) : Int) := by decide
set_option maxRecDepth 100000 in
theorem and15 : ∀ x : Fin 256, Go.bits .and .i64 ((x.val : Nat) : Int) 15 = ((x.val % 16 : Nat) : Int) := by decide
set_option maxRecDepth 100000 in
theorem and7 : ∀ x : Fin 256, Go.bits .and .i64 ((x.val : Nat) : Int) 7 = ((x.val % 8 : Nat) : Int) := by decide
theorem band31 (s : ByteArray) (i : Int) : Go.bits .and .i64 (bt s i) 31 = bt s i % 32 := by
 have h := bt_lt s i
 have := and31 ⟨(bt s i).toNat, by omega⟩
 simp only [Int.toNat_of_nonneg h.1] at this
 rw [this]; omega
theorem band15 (s : ByteArray) (i : Int) : Go.bits .and .i64 (bt s i) 15 = bt s i % 16 := by
 have h := bt_lt s i
 have := and15 ⟨(bt s i).toNat, by omega⟩
 simp only [Int.toNat_of_nonneg h.1] at this
 rw [this]; omega
theorem band7 (s : ByteArray) (i : Int) : Go.bits .and .i64 (bt s i) 7 = bt s i % 8 := by
 have h := bt_lt s i
 have := and7 ⟨(bt s i).toNat, by omega⟩
 simp only [Int.toNat_of_nonneg h.1] at this
 rw [this]; omega
/-- The sign at a place. -/
def sgn (s : ByteArray) (i : Int) : Int × Int × Bool :=
 if i < 0 ∨ (s.size : Int) ≤ i then (0, 0, false)
 else if ((Go.Utf8.decode s i.toNat).1 : Int) = 65533 ∧ ((Go.Utf8.decode s i.toNat).2 : Int) ≤ 1 then (0, 0, false)
 else (((Go.Utf8.decode s i.toNat).1 : Int), i + ((Go.Utf8.decode s i.toNat).2 : Int), true)
theorem dec_le (s : ByteArray) (i : Nat) : (Go.Utf8.decode s i).1 ≤ 1114111 ∧ 1 ≤ (Go.Utf8.decode s i).2 ∧ (Go.Utf8.decode s i).2 ≤ 4 := by
 rw [Go.Lib.decode_at]
 have h0 := (s.get! i).toNat_lt
 unfold Go.Lib.decodeN
 repeat' split
 all_goals (refine ⟨?_, ?_, ?_⟩ <;> simp only <;> omega)
theorem implSignAt_f (s : ByteArray) (i : Int) (hs : s.size ≤ 16777216) : impl_SignAt.f s i = some (sgn s i) := by
 unfold impl_SignAt.f impl_in.f sgn
 rw [w64 (by omega) (by omega)]
 by_cases h0 : i ≥ 0
 ·rw [if_pos h0]
  by_cases h1 : i ≤ (s.size : Int) - 1
  ·have hd := dec_le s i.toNat
   rw [if_neg (by omega : ¬ (i < 0 ∨ (s.size : Int) ≤ i))]
   simp only [h1, decide_true, Option.bind_some, if_true]
   rw [if_pos (by omega : (0 : Int) ≤ i), if_pos (by omega : i ≤ (s.size : Int))]
   have hdg : Go.Lib.decodeGo (s.extract i.toNat s.size) = Go.Utf8.decode s i.toNat := by
    unfold Go.Lib.decodeGo
    rw [Go.Lib.tail_size, if_neg (by omega), Go.Lib.tail_decode]
    rfl
   simp only [utf8_DecodeRuneInString.f, hdg, Option.bind_some]
   generalize hD : Go.Utf8.decode s i.toNat = d at hd ⊢
   rw [w64 (by omega) (by omega), w64 (by omega) (by omega)]
   by_cases c0 : (d.1 : Int) = 65533
   ·rw [if_pos c0]
    by_cases c1 : (d.2 : Int) ≤ 1
    ·rw [if_pos c1, if_pos ⟨c0, c1⟩]
    ·rw [if_neg c1, if_neg (fun h => c1 h.2)]
   ·rw [if_neg c0, if_neg (fun h => c0 h.1)]
  ·rw [if_pos (by omega : i < 0 ∨ (s.size : Int) ≤ i)]
   simp [h1]
 ·rw [if_neg h0, if_pos (by omega : i < 0 ∨ (s.size : Int) ≤ i)]
  rfl
theorem l0_step (k : Nat) (s : ByteArray) (i w lo c j : Int) (hs : s.size ≤ 16777216) (h0 : 0 ≤ i + j) (h1 : i + j < s.size) (hj : j ≤ w) (hj0 : 0 ≤ j) (hw : w ≤ 9) (hc0 : 0 ≤ c) (hc1 : c ≤ 100000000) :
  spec_SignAt.l0 (k + 1) s i w lo c j = if bt s (i + j) < 128 ∨ 191 < bt s (i + j) then some (0, 0, false) else spec_SignAt.l0 k s i w lo (c * 64 + bt s (i + j) - 128) (j + 1) := by
 have hb := bt_lt s (i + j)
 rw [spec_SignAt.l0, if_pos hj, w64 (i := i + j) (by omega) (by omega), if_pos h0, if_pos h1, w64 (i := bt s (i + j)) (by omega) (by omega),
  w64 (i := c * 64) (by omega) (by omega), w64 (i := c * 64 + bt s (i + j)) (by omega) (by omega), w64 (i := c * 64 + bt s (i + j) - 128) (by omega) (by omega), w64 (i := j + 1) (by omega) (by omega)]
 by_cases c0 : bt s (i + j) < 128
 ·rw [if_pos c0, if_pos (.inl c0)]
 ·rw [if_neg c0]
  by_cases c1 : bt s (i + j) > 191
  ·rw [if_pos c1, if_pos (.inr c1)]
  ·rw [if_neg c1, if_neg (by omega)]
theorem l0_end (k : Nat) (s : ByteArray) (i w lo c j : Int) (h0 : 0 ≤ i) (h1 : i ≤ 16777216) (hj : w < j) (hw0 : 0 ≤ w) (hw : w ≤ 9) :
  spec_SignAt.l0 (k + 1) s i w lo c j = some (if c < lo ∨ 1114111 < c ∨ (55296 ≤ c ∧ c ≤ 57343) then (0, 0, false) else (c, i + 1 + w, true)) := by
 rw [spec_SignAt.l0, if_neg (by omega)]
 by_cases c0 : c < lo
 ·rw [if_pos c0, if_pos (.inl c0)]
 rw [if_neg c0]
 by_cases c1 : c > 1114111
 ·rw [if_pos c1, if_pos (.inr (.inl c1))]
 rw [if_neg c1, w64 (i := i + 1) (by omega) (by omega), w64 (i := i + 1 + w) (by omega) (by omega)]
 unfold spec_l1In.f
 by_cases c2 : c ≥ 55296
 ·rw [if_pos c2]
  by_cases c3 : c ≤ 57343
  ·rw [decide_eq_true c3, Option.bind_some, if_pos rfl, if_pos (.inr (.inr ⟨c2, c3⟩))]
  ·rw [decide_eq_false c3, Option.bind_some, if_neg (by decide), if_neg (by omega)]
 ·rw [if_neg c2]
  simp only [Option.bind_some]
  rw [if_neg (by decide), if_neg (by omega)]
set_option maxHeartbeats 4000000 in
theorem specSignAt_f (k : Nat) (s : ByteArray) (i : Int) (hs : s.size ≤ 16777216) : spec_SignAt.f (k + 12) s i = some (sgn s i) := by
 unfold spec_SignAt.f sgn
 by_cases g0 : i < 0
 ·rw [if_pos g0, if_pos (.inl g0), spec_SignAt.j0, if_pos rfl]
 rw [if_neg g0]
 by_cases g1 : i ≥ (s.size : Int)
 ·rw [if_pos (.inr g1), spec_SignAt.j0, if_pos (by simpa using g1)]
 rw [if_neg (by omega : ¬ (i < 0 ∨ (s.size : Int) ≤ i)), spec_SignAt.j0, if_neg (by simpa using g1), if_pos (by omega : 0 ≤ i), if_pos (by omega : i < (s.size : Int))]
 have hb0 := bt_lt s i
 have hb1 := bt_lt s (i + 1)
 have hb2 := bt_lt s (i + 2)
 have hb3 := bt_lt s (i + 3)
 have hi : i = ((i.toNat : Nat) : Int) := by omega
 have e0 := get_bt s i.toNat
 have e1 := get_bt s (i.toNat + 1)
 have e2 := get_bt s (i.toNat + 2)
 have e3 := get_bt s (i.toNat + 3)
 rw [show ((i.toNat : Nat) : Int) = i by omega] at e0
 rw [show ((i.toNat + 1 : Nat) : Int) = i + 1 by omega] at e1
 rw [show ((i.toNat + 2 : Nat) : Int) = i + 2 by omega] at e2
 rw [show ((i.toNat + 3 : Nat) : Int) = i + 3 by omega] at e3
 have hd := Go.Lib.decode_at s i.toNat
 generalize Go.Utf8.decode s i.toNat = d at hd ⊢
 obtain ⟨d1, d2⟩ := d
 generalize s.get! i.toNat = B0 at hd e0
 generalize s.get! (i.toNat + 1) = B1 at hd e1
 generalize s.get! (i.toNat + 2) = B2 at hd e2
 generalize s.get! (i.toNat + 3) = B3 at hd e3
 simp only
 rw [w64 (i := bt s i) (by omega) (by omega), w64 (i := i + 1) (by omega) (by omega)]
 by_cases c0 : bt s i < 128
 ·rw [if_pos c0]
  unfold Go.Lib.decodeN at hd
  rw [if_pos (by omega)] at hd
  obtain ⟨rfl, rfl⟩ := Prod.mk.inj hd
  rw [if_neg (by omega), e0]
  rfl
 rw [if_neg c0]
 by_cases c1 : bt s i ≥ 192
 ·rw [if_pos c1]
  by_cases c2 : bt s i < 224
  ·rw [spec_SignAt.j1, if_pos (by simpa using c2), band31, spec_SignAt.j3, w64 (i := (s.size : Int) - 1) (by omega) (by omega), w64 (i := (s.size : Int) - 1 - 1) (by omega) (by omega)]
   have hE : (if i > (s.size : Int) - 1 - 1 then some (0, 0, false) else spec_SignAt.l0 (k + 9) s i 1 128 (bt s i % 32) 1) = (if i > (s.size : Int) - 2 then some (0, 0, false) else (if bt s (i + 1) < 128 ∨ 191 < bt s (i + 1) then some (0, 0, false) else some (if (bt s i % 32) * 64 + bt s (i + 1) - 128 < 128 ∨ 1114111 < (bt s i % 32) * 64 + bt s (i + 1) - 128 ∨ (55296 ≤ (bt s i % 32) * 64 + bt s (i + 1) - 128 ∧ (bt s i % 32) * 64 + bt s (i + 1) - 128 ≤ 57343) then (0, 0, false) else ((bt s i % 32) * 64 + bt s (i + 1) - 128, i + 1 + 1, true)))) := by
    by_cases t0 : i > (s.size : Int) - 1 - 1
    ·rw [if_pos t0, if_pos (by omega)]
    rw [if_neg t0, if_neg (by omega), l0_step (k + 8) s i 1 128 _ 1 hs (by omega) (by omega) (by omega) (by omega) (by omega) (by omega) (by omega)]
    by_cases t1 : bt s (i + 1) < 128 ∨ 191 < bt s (i + 1)
    ·rw [if_pos t1, if_pos t1]
    rw [if_neg t1, if_neg t1, l0_end (k + 7) s i 1 128 _ _ (by omega) (by omega) (by omega) (by omega) (by omega)]
   rw [hE]
   clear hE
   generalize bt s i = b0 at *
   generalize bt s (i + 1) = b1 at *
   generalize bt s (i + 2) = b2 at *
   generalize bt s (i + 3) = b3 at *
   unfold Go.Lib.decodeN at hd
   repeat' split at hd
   all_goals (simp only [Prod.mk.injEq] at hd; obtain ⟨rfl, rfl⟩ := hd; repeat' split)
   all_goals first | rfl | (exfalso; omega) | (simp only [Option.some.injEq, Prod.mk.injEq]; refine ⟨?_, ?_, ?_⟩ <;> first | omega | trivial | rfl)
  rw [spec_SignAt.j1, if_neg (by simpa using c2)]
  rw [if_pos (by omega : bt s i ≥ 224)]
  by_cases c3 : bt s i < 240
  ·rw [spec_SignAt.j2, if_pos (by simpa using c3), band15, spec_SignAt.j3, w64 (i := (s.size : Int) - 1) (by omega) (by omega), w64 (i := (s.size : Int) - 1 - 2) (by omega) (by omega)]
   have hE : (if i > (s.size : Int) - 1 - 2 then some (0, 0, false) else spec_SignAt.l0 (k + 8) s i 2 2048 (bt s i % 16) 1) = (if i > (s.size : Int) - 3 then some (0, 0, false) else (if bt s (i + 1) < 128 ∨ 191 < bt s (i + 1) then some (0, 0, false) else (if bt s (i + 2) < 128 ∨ 191 < bt s (i + 2) then some (0, 0, false) else some (if ((bt s i % 16) * 64 + bt s (i + 1) - 128) * 64 + bt s (i + 2) - 128 < 2048 ∨ 1114111 < ((bt s i % 16) * 64 + bt s (i + 1) - 128) * 64 + bt s (i + 2) - 128 ∨ (55296 ≤ ((bt s i % 16) * 64 + bt s (i + 1) - 128) * 64 + bt s (i + 2) - 128 ∧ ((bt s i % 16) * 64 + bt s (i + 1) - 128) * 64 + bt s (i + 2) - 128 ≤ 57343) then (0, 0, false) else (((bt s i % 16) * 64 + bt s (i + 1) - 128) * 64 + bt s (i + 2) - 128, i + 1 + 2, true))))) := by
    by_cases t0 : i > (s.size : Int) - 1 - 2
    ·rw [if_pos t0, if_pos (by omega)]
    rw [if_neg t0, if_neg (by omega), l0_step (k + 7) s i 2 2048 _ 1 hs (by omega) (by omega) (by omega) (by omega) (by omega) (by omega) (by omega)]
    by_cases t1 : bt s (i + 1) < 128 ∨ 191 < bt s (i + 1)
    ·rw [if_pos t1, if_pos t1]
    rw [if_neg t1, if_neg t1, show (1 + 1 : Int) = 2 from rfl, l0_step (k + 6) s i 2 2048 _ 2 hs (by omega) (by omega) (by omega) (by omega) (by omega) (by omega) (by omega)]
    by_cases t2 : bt s (i + 2) < 128 ∨ 191 < bt s (i + 2)
    ·rw [if_pos t2, if_pos t2]
    rw [if_neg t2, if_neg t2, l0_end (k + 5) s i 2 2048 _ _ (by omega) (by omega) (by omega) (by omega) (by omega)]
   rw [hE]
   clear hE
   generalize bt s i = b0 at *
   generalize bt s (i + 1) = b1 at *
   generalize bt s (i + 2) = b2 at *
   generalize bt s (i + 3) = b3 at *
   unfold Go.Lib.decodeN at hd
   repeat' split at hd
   all_goals (simp only [Prod.mk.injEq] at hd; obtain ⟨rfl, rfl⟩ := hd; repeat' split)
   all_goals first | rfl | (exfalso; omega) | (simp only [Option.some.injEq, Prod.mk.injEq]; refine ⟨?_, ?_, ?_⟩ <;> first | omega | trivial | rfl)
  rw [spec_SignAt.j2, if_neg (by simpa using c3), if_pos (by omega : bt s i ≥ 240)]
  by_cases c4 : bt s i < 248
  ·rw [if_pos c4, band7, spec_SignAt.j3, w64 (i := (s.size : Int) - 1) (by omega) (by omega), w64 (i := (s.size : Int) - 1 - 3) (by omega) (by omega)]
   have hE : (if i > (s.size : Int) - 1 - 3 then some (0, 0, false) else spec_SignAt.l0 (k + 8) s i 3 65536 (bt s i % 8) 1) = (if i > (s.size : Int) - 4 then some (0, 0, false) else (if bt s (i + 1) < 128 ∨ 191 < bt s (i + 1) then some (0, 0, false) else (if bt s (i + 2) < 128 ∨ 191 < bt s (i + 2) then some (0, 0, false) else (if bt s (i + 3) < 128 ∨ 191 < bt s (i + 3) then some (0, 0, false) else some (if (((bt s i % 8) * 64 + bt s (i + 1) - 128) * 64 + bt s (i + 2) - 128) * 64 + bt s (i + 3) - 128 < 65536 ∨ 1114111 < (((bt s i % 8) * 64 + bt s (i + 1) - 128) * 64 + bt s (i + 2) - 128) * 64 + bt s (i + 3) - 128 ∨ (55296 ≤ (((bt s i % 8) * 64 + bt s (i + 1) - 128) * 64 + bt s (i + 2) - 128) * 64 + bt s (i + 3) - 128 ∧ (((bt s i % 8) * 64 + bt s (i + 1) - 128) * 64 + bt s (i + 2) - 128) * 64 + bt s (i + 3) - 128 ≤ 57343) then (0, 0, false) else ((((bt s i % 8) * 64 + bt s (i + 1) - 128) * 64 + bt s (i + 2) - 128) * 64 + bt s (i + 3) - 128, i + 1 + 3, true)))))) := by
    by_cases t0 : i > (s.size : Int) - 1 - 3
    ·rw [if_pos t0, if_pos (by omega)]
    rw [if_neg t0, if_neg (by omega), l0_step (k + 7) s i 3 65536 _ 1 hs (by omega) (by omega) (by omega) (by omega) (by omega) (by omega) (by omega)]
    by_cases t1 : bt s (i + 1) < 128 ∨ 191 < bt s (i + 1)
    ·rw [if_pos t1, if_pos t1]
    rw [if_neg t1, if_neg t1, show (1 + 1 : Int) = 2 from rfl, l0_step (k + 6) s i 3 65536 _ 2 hs (by omega) (by omega) (by omega) (by omega) (by omega) (by omega) (by omega)]
    by_cases t2 : bt s (i + 2) < 128 ∨ 191 < bt s (i + 2)
    ·rw [if_pos t2, if_pos t2]
    rw [if_neg t2, if_neg t2, show (2 + 1 : Int) = 3 from rfl, l0_step (k + 5) s i 3 65536 _ 3 hs (by omega) (by omega) (by omega) (by omega) (by omega) (by omega) (by omega)]
    by_cases t3 : bt s (i + 3) < 128 ∨ 191 < bt s (i + 3)
    ·rw [if_pos t3, if_pos t3]
    rw [if_neg t3, if_neg t3, l0_end (k + 4) s i 3 65536 _ _ (by omega) (by omega) (by omega) (by omega) (by omega)]
   rw [hE]
   clear hE
   generalize bt s i = b0 at *
   generalize bt s (i + 1) = b1 at *
   generalize bt s (i + 2) = b2 at *
   generalize bt s (i + 3) = b3 at *
   unfold Go.Lib.decodeN at hd
   repeat' split at hd
   all_goals (simp only [Prod.mk.injEq] at hd; obtain ⟨rfl, rfl⟩ := hd; repeat' split)
   all_goals first | rfl | (exfalso; omega) | (simp only [Option.some.injEq, Prod.mk.injEq]; refine ⟨?_, ?_, ?_⟩ <;> first | omega | trivial | rfl)
  rw [if_neg c4]
  unfold Go.Lib.decodeN at hd
  rw [if_neg (by omega), if_neg (by omega), if_neg (by omega), if_neg (by omega)] at hd
  obtain ⟨rfl, rfl⟩ := Prod.mk.inj hd
  rfl
 ·rw [if_neg c1, spec_SignAt.j1, if_neg (by decide), if_neg (by omega), spec_SignAt.j2, if_neg (by decide), if_neg (by omega)]
  unfold Go.Lib.decodeN at hd
  rw [if_neg (by omega), if_neg (by omega), if_neg (by omega), if_neg (by omega)] at hd
  obtain ⟨rfl, rfl⟩ := Prod.mk.inj hd
  rfl
theorem SignAt_ev (s : ByteArray) (i : Int) (hs : s.size ≤ 16777216) : Ev (fun k => spec_SignAt.f k s i) (sgn s i) := ⟨12, fun k hk => by
 obtain ⟨m, rfl⟩ : ∃ m, k = m + 12 := ⟨k - 12, by omega⟩
 exact specSignAt_f m s i hs⟩
theorem sgn_ok (s : ByteArray) (i : Int) (h : (sgn s i).2.2 = true) : 0 ≤ i ∧ i < s.size ∧ i < (sgn s i).2.1 ∧ (sgn s i).2.1 ≤ s.size := by
 revert h
 unfold sgn
 by_cases h0 : i < 0 ∨ (s.size : Int) ≤ i
 ·rw [if_pos h0]; intro h; exact absurd h (by simp)
 rw [if_neg h0]
 have hd := Go.Lib.decode_at s i.toNat
 have hw := dec_le s i.toNat
 generalize Go.Utf8.decode s i.toNat = d at *
 obtain ⟨d1, d2⟩ := d
 by_cases h1 : (d1 : Int) = 65533 ∧ (d2 : Int) ≤ 1
 ·rw [if_pos h1]; intro h; exact absurd h (by simp)
 rw [if_neg h1]
 intro _
 have e : i + (d2 : Int) ≤ s.size := by
  unfold Go.Lib.decodeN at hd
  repeat' split at hd
  all_goals (simp only [Prod.mk.injEq] at hd; obtain ⟨rfl, rfl⟩ := hd; omega)
 simp only at hw
 exact ⟨by omega, by omega, by simp only; omega, e⟩
theorem signs_same (s : ByteArray) (hs : s.size ≤ 600) (d : Nat) : ∀ i : Int, 0 ≤ i → i ≤ s.size → s.size - i.toNat ≤ d → ∃ r, Ev (fun k => spec_l1Signs.l0 k s i) r ∧ Ev (fun k => impl_signsOk.l0 k s i) r := by
 induction d with
 | zero =>
  intro i h0 h1 hd
  refine ⟨true, Ev.step (fun k => ?_) (Ev.now _), Ev.step (fun k => ?_) (Ev.now _)⟩
  ·simp only [spec_l1Signs.l0]
   rw [if_neg (by omega), decide_eq_true (by omega)]
   try rfl
  ·simp only [impl_signsOk.l0]
   rw [if_neg (by omega)]
   try rfl
 | succ d ih =>
  intro i h0 h1 hd
  by_cases hlt : ¬ i < (s.size : Int)
  ·refine ⟨true, Ev.step (fun k => ?_) (Ev.now _), Ev.step (fun k => ?_) (Ev.now _)⟩
   ·simp only [spec_l1Signs.l0]
    rw [if_neg (by omega), decide_eq_true (by omega)]
    try rfl
   ·simp only [impl_signsOk.l0]
    rw [if_neg (by omega)]
    try rfl
  have hlt : i < (s.size : Int) := by omega
  have hS := SignAt_ev s i (by omega)
  have hI := implSignAt_f s i (by omega)
  have hok := sgn_ok s i
  generalize sgn s i = g at *
  have hs1 : ∀ k, spec_l1Signs.l0 (k + 1) s i = (spec_SignAt.f k s i).bind fun bt114 => (if bt114.2.2 = true then ((spec_IsSign.f bt114.1).bind fun t117 => (if t117 = true then (spec_l1Signs.l0 k s bt114.2.1) else (some false))) else (some false)) := fun k => by
   simp only [spec_l1Signs.l0]
   rw [if_pos hlt]
  have hi1 : ∀ k, impl_signsOk.l0 (k + 1) s i = (if g.2.2 = true then (if impl_IsSign.l.any (inR g.1) = true then (impl_signsOk.l0 k s g.2.1) else (some false)) else (some false)) := fun k => by
   simp only [impl_signsOk.l0]
   rw [if_pos hlt, hI]
   try rfl
  by_cases hg : ¬ g.2.2 = true
  ·exact ⟨false, Ev.step hs1 (Ev.bind hS (Ev.congr (fun k => by rw [if_neg hg]) (Ev.now _))), Ev.step hi1 (Ev.congr (fun k => by rw [if_neg hg]) (Ev.now _))⟩
  have hg := Decidable.not_not.1 hg
  obtain ⟨_, _, g1, g2⟩ := hok hg
  cases hq : impl_IsSign.l.any (inR g.1) with
  | false =>
   exact ⟨false, Ev.step hs1 (Ev.bind hS (Ev.congr (fun k => by rw [if_pos hg, IsSign_f, hq]; try rfl) (Ev.now _))), Ev.step hi1 (Ev.congr (fun k => by rw [if_pos hg, hq]; try rfl) (Ev.now _))⟩
  | true =>
   obtain ⟨r, hr1, hr2⟩ := ih g.2.1 (by omega) g2 (by omega)
   exact ⟨r, Ev.step hs1 (Ev.bind hS (Ev.congr (fun k => by rw [if_pos hg, IsSign_f, hq]; try rfl) hr1)), Ev.step hi1 (Ev.congr (fun k => by rw [if_pos hg, hq]; try rfl) hr2)⟩
theorem text_same (s : ByteArray) : ∃ r, Ev (fun k => spec_TextOk.f k s) r ∧ Ev (fun k => impl_TextOk.f k s) r := by
 by_cases h : (s.size : Int) ≤ 600
 ·obtain ⟨r, h1, h2⟩ := signs_same s (by omega) s.size 0 (by omega) (by omega) (by omega)
  refine ⟨r, ?_, ?_⟩
  ·refine Ev.congr (fun k => by simp only [spec_TextOk.f]; rw [if_pos h]; try rfl) (Ev.bind (g := fun k => spec_l1Signs.l0 k s 0) h1 (Ev.now _))
  ·refine Ev.congr (fun k => by simp only [impl_TextOk.f]; rw [if_pos h]; try rfl) (Ev.bind (g := fun k => impl_signsOk.l0 k s 0) h2 (Ev.now _))
 ·exact ⟨false, Ev.congr (fun k => by simp only [spec_TextOk.f]; rw [if_neg h]) (Ev.now _), Ev.congr (fun k => by simp only [impl_TextOk.f]; rw [if_neg h]) (Ev.now _)⟩
theorem implin_f (n lo hi : Int) : impl_in.f n lo hi = some (inR n (lo, hi)) := l1In_f n lo hi
theorem plain_l (s : ByteArray) (hs : s.size ≤ 16777216) (d : Nat) : ∀ i : Int, 0 ≤ i → i ≤ s.size → s.size - i.toNat ≤ d → ∃ r, Ev (fun k => spec_PlainOk.l0 k s i) r ∧ Ev (fun k => impl_PlainOk.l0 k s i) (r && inR s.size (1, 16)) := by
 have hend : ∀ i : Int, ¬ i < (s.size : Int) → ∃ r, Ev (fun k => spec_PlainOk.l0 k s i) r ∧ Ev (fun k => impl_PlainOk.l0 k s i) (r && inR s.size (1, 16)) := by
  intro i h
  refine ⟨true, Ev.step (fun k => ?_) (Ev.now _), Ev.step (fun k => ?_) (Ev.now _)⟩
  ·simp only [spec_PlainOk.l0]
   rw [if_neg h]
   try rfl
  ·simp only [impl_PlainOk.l0]
   rw [if_neg h, implin_f]
   try rfl
 induction d with
 | zero =>
  intro i h0 h1 hd
  exact hend i (by omega)
 | succ d ih =>
  intro i h0 h1 hd
  by_cases hlt : ¬ i < (s.size : Int)
  ·exact hend i hlt
  have hlt : i < (s.size : Int) := by omega
  have hS := SignAt_ev s i (by omega)
  have hI := implSignAt_f s i (by omega)
  have hok := sgn_ok s i
  generalize sgn s i = g at *
  have hs1 : ∀ k, spec_PlainOk.l0 (k + 1) s i = ((spec_SignAt.f k s i).bind fun bt139 => (if bt139.2.2 = true then (if i = 0 then ((spec_IsStart.f k bt139.1).bind fun t142 => (if t142 = true then ((spec_IsPart.f k bt139.1).bind fun t143 => (if t143 = true then (spec_PlainOk.l0 k s bt139.2.1) else (some false))) else (some false))) else ((spec_IsPart.f k bt139.1).bind fun t144 => (if t144 = true then (spec_PlainOk.l0 k s bt139.2.1) else (some false)))) else (some false))) := fun k => by
   simp only [spec_PlainOk.l0]
   rw [if_pos hlt]
  have hi1 : ∀ k, impl_PlainOk.l0 (k + 1) s i = (if g.2.2 = true then (if i = 0 then (if impl_IsStart.l.any (inR g.1) = true then (if (impl_IsStart.l.any (inR g.1) || impl_IsPart.l.any (inR g.1)) = true then (impl_PlainOk.l0 k s g.2.1) else (some false)) else (some false)) else (if (impl_IsStart.l.any (inR g.1) || impl_IsPart.l.any (inR g.1)) = true then (impl_PlainOk.l0 k s g.2.1) else (some false))) else (some false)) := fun k => by
   simp only [impl_PlainOk.l0]
   rw [if_pos hlt, hI]
   try rfl
  have hst := IsStart_f g.1
  have hpt := IsPart_f g.1
  by_cases hg : ¬ g.2.2 = true
  ·exact ⟨false, Ev.step hs1 (Ev.bind hS (Ev.congr (fun k => by rw [if_neg hg]) (Ev.now _))), Ev.step hi1 (Ev.congr (fun k => by rw [if_neg hg]; try rfl) (Ev.now _))⟩
  have hg := Decidable.not_not.1 hg
  obtain ⟨_, _, g1, g2⟩ := hok hg
  obtain ⟨r, hr1, hr2⟩ := ih g.2.1 (by omega) g2 (by omega)
  generalize impl_IsStart.l.any (inR g.1) = a at *
  generalize impl_IsPart.l.any (inR g.1) = b at *
  by_cases hz : i = 0
  ·cases a with
   | false =>
    refine ⟨false, Ev.step hs1 (Ev.bind hS ?_), Ev.step hi1 (Ev.congr (fun k => by rw [if_pos hg, if_pos hz]; try rfl) (Ev.now _))⟩
    exact Ev.congr (fun k => by rw [if_pos hg, if_pos hz]) (Ev.bind hst (Ev.congr (fun k => by rw [if_neg (by simp)]) (Ev.now _)))
   | true =>
    refine ⟨r, Ev.step hs1 (Ev.bind hS ?_), Ev.step hi1 (Ev.congr (fun k => by rw [if_pos hg, if_pos hz]; try rfl) hr2)⟩
    refine Ev.congr (fun k => by rw [if_pos hg, if_pos hz]) (Ev.bind hst ?_)
    refine Ev.congr (fun k => by rw [if_pos rfl]) (Ev.bind hpt ?_)
    exact Ev.congr (fun k => by rw [if_pos (by simp)]) hr1
  ·cases hq : (a || b) with
   | false =>
    rw [hq] at hpt hi1
    refine ⟨false, Ev.step hs1 (Ev.bind hS ?_), Ev.step hi1 (Ev.congr (fun k => by rw [if_pos hg, if_neg hz]; try rfl) (Ev.now _))⟩
    exact Ev.congr (fun k => by rw [if_pos hg, if_neg hz]) (Ev.bind hpt (Ev.congr (fun k => by rw [if_neg (by simp)]) (Ev.now _)))
   | true =>
    rw [hq] at hpt hi1
    refine ⟨r, Ev.step hs1 (Ev.bind hS ?_), Ev.step hi1 (Ev.congr (fun k => by rw [if_pos hg, if_neg hz]; try rfl) hr2)⟩
    exact Ev.congr (fun k => by rw [if_pos hg, if_neg hz]) (Ev.bind hpt (Ev.congr (fun k => by rw [if_pos rfl]) hr1))
theorem plain_same (s : ByteArray) (hs : s.size ≤ 16777216) : ∃ r, Ev (fun k => spec_PlainOk.f k s) r ∧ Ev (fun k => impl_PlainOk.f k s) r := by
 obtain ⟨r, h1, h2⟩ := plain_l s hs s.size 0 (by omega) (by omega) (by omega)
 refine ⟨r && inR s.size (1, 16), ?_, h2⟩
 refine Ev.congr (fun k => by simp only [spec_PlainOk.f]; rw [l1In_f, Option.bind_some]) ?_
 cases inR s.size (1, 16) with
 | false => exact Ev.congr (fun k => by rw [if_neg (by simp)]) (by rw [Bool.and_false]; exact Ev.now _)
 | true => exact Ev.congr (fun k => by rw [if_pos rfl]) (by rw [Bool.and_true]; exact h1)
theorem xml_f (p : ByteArray) : spec_l4Xml.f p = some (Go.Lib.hasPrefix p.data.toList [120, 109, 108]) := by
 unfold spec_l4Xml.f
 rw [Go.Lib.extract_toList, Go.Lib.size_eq p]
 generalize p.data.toList = l
 unfold Go.Lib.hasPrefix
 match l with
 | [] => rfl
 | [a] => simp [List.isPrefixOf]
 | [a, b] => simp [List.isPrefixOf]
 | a :: b :: c :: l =>
  rw [if_pos (by simp; omega), if_pos (by omega), if_pos (by simp; omega)]
  simp only [Option.some.injEq, List.drop_zero, Nat.sub_zero, List.take_succ_cons, List.take_zero]
  rw [Bool.eq_iff_iff]
  simp only [List.isPrefixOf, Bool.and_eq_true, beq_iff_eq, List.cons.injEq, and_true]
  constructor <;> (rintro ⟨h1, h2, h3⟩; exact ⟨h1.symm, h2.symm, h3.symm⟩)
theorem prefix_f (p : ByteArray) : strings_HasPrefix.f p (⟨#[120, 109, 108]⟩ : ByteArray) = some (Go.Lib.hasPrefix p.data.toList [120, 109, 108]) := rfl
theorem decl_same (p u : ByteArray) (hp : p.size ≤ 1048576) : ∃ r, Ev (fun k => spec_DeclOk.f k p u) r ∧ Ev (fun k => impl_DeclOk.f k p u) r := by
 obtain ⟨t, t1, t2⟩ := text_same u
 obtain ⟨q, q1, q2⟩ := plain_same p (by omega)
 have hx := xml_f p
 have hx2 := prefix_f p
 generalize Go.Lib.hasPrefix p.data.toList [120, 109, 108] = x at hx hx2
 have huri : Ev (fun k => impl_uriOk.f k u p) (t && decide ((u.size : Int) ≤ 40) && (!(decide (u.toList = [])) || decide (p.toList = []))) := by
  refine Ev.congr (fun k => by simp only [impl_uriOk.f]; rfl) (Ev.bind t2 ?_)
  cases t with
  | false => exact Ev.congr (fun k => by rw [if_neg (by simp)]; try rfl) (Ev.now _)
  | true =>
   refine Ev.congr (f := fun _ => some _) (fun k => ?_) (Ev.now _)
   rw [if_pos rfl]
   by_cases h1 : (u.size : Int) ≤ 40
   ·rw [if_pos h1, decide_eq_true h1]
    by_cases h2 : u.toList = []
    ·rw [if_pos h2, decide_eq_true h2]
     by_cases h3 : p.toList = []
     ·rw [h3]; rfl
     ·rw [decide_eq_false h3]
      have : (p.toList == []) = false := by simpa using h3
      rw [this]; rfl
    ·rw [if_neg h2, decide_eq_false h2]; rfl
   ·rw [if_neg h1, decide_eq_false h1]; rfl
 by_cases h0 : p.toList = []
 ·refine ⟨t && decide ((u.size : Int) ≤ 40), ?_, ?_⟩
  ·refine Ev.congr (fun k => by simp only [spec_DeclOk.f]; rw [if_pos h0]) (Ev.bind t1 ?_)
   cases t with
   | false => exact Ev.congr (fun k => by rw [if_neg (by simp)]; try rfl) (Ev.now _)
   | true => exact Ev.congr (fun k => by rw [if_pos rfl]; try rfl) (Ev.now _)
  ·refine Ev.congr (fun k => by simp only [impl_DeclOk.f, impl_preOk.f]; rw [if_pos h0, Option.bind_some, if_pos rfl]) (Ev.bind huri ?_)
   refine Ev.congr (f := fun _ => some _) (fun k => ?_) (Ev.now _)
   rw [decide_eq_true h0, Bool.or_true, Bool.and_true]
 ·refine ⟨q && !x && (t && decide ((u.size : Int) ≤ 40) && (!(decide (u.toList = [])) || decide (p.toList = []))), ?_, ?_⟩
  ·refine Ev.congr (fun k => by simp only [spec_DeclOk.f]; rw [if_neg h0]) (Ev.bind q1 ?_)
   cases q with
   | false => exact Ev.congr (fun k => by rw [if_neg (by simp)]; try rfl) (Ev.now _)
   | true =>
    refine Ev.congr (f := fun k => if x = true then some false else if u.toList = [] then some false else (spec_TextOk.f k u).bind fun t171 => if t171 = true then some (decide ((u.size : Int) ≤ 40)) else some false) (fun k => by rw [if_pos rfl, hx]; try rfl) ?_
    cases x with
    | true => exact Ev.congr (fun k => by rw [if_pos rfl]; try rfl) (Ev.now _)
    | false =>
     by_cases h2 : u.toList = []
     ·refine Ev.congr (f := fun _ => some _) (fun k => ?_) (Ev.now _)
      rw [if_neg (by simp), if_pos h2, decide_eq_true h2, decide_eq_false h0]
      simp
     ·refine Ev.congr (fun k => by rw [if_neg (by simp), if_neg h2]) (Ev.bind t1 ?_)
      refine Ev.congr (f := fun _ => some _) (fun k => ?_) (Ev.now _)
      rw [decide_eq_false h2]
      cases t <;> simp
  ·have hpre : Ev (fun k => impl_preOk.f k p) (q && !x) := by
    refine Ev.congr (fun k => by simp only [impl_preOk.f]; rw [if_neg h0, hx2]; try rfl) (Ev.bind q2 ?_)
    refine Ev.congr (f := fun _ => some _) (fun k => ?_) (Ev.now _)
    cases q <;> simp
   refine Ev.congr (fun k => by simp only [impl_DeclOk.f]; rfl) (Ev.bind hpre ?_)
   cases (q && !x) with
   | false => exact Ev.congr (fun k => by rw [if_neg (by simp)]; try rfl) (Ev.now _)
   | true => exact Ev.congr (fun k => by rw [if_pos rfl]; try rfl) (Ev.bind huri (Ev.now _))
theorem rd_IDecl (l : List S44) (i : Nat) (h : i < l.length) : rd_T44 l (i : Int) = l[i] := by simp [rd_T44, List.getD_eq_getElem?_getD, List.getElem?_eq_getElem h]
theorem decls_l (l : List S44) (hl : l.length ≤ 1048576) (hw : ∀ x ∈ l, x.f0.size ≤ 1048576) (d : Nat) : ∀ i : Nat, i ≤ l.length → l.length - i = d →
  ∃ r, Ev (fun k => spec_DeclsOk.l0 k l (i : Int)) r ∧ Ev (fun k => impl_DeclsOk.l0 k l l (l.length : Int) (i : Int)) r := by
 induction d with
 | zero =>
  intro i hi hd
  refine ⟨decide ((l.length : Int) ≤ 4), Ev.step (fun k => ?_) (Ev.now _), Ev.step (fun k => ?_) (Ev.now _)⟩
  ·simp only [spec_DeclsOk.l0]
   rw [if_neg (by omega)]
  ·simp only [impl_DeclsOk.l0]
   rw [if_neg (by omega)]
 | succ d ih =>
  intro i hi hd
  have hlt : i < l.length := by omega
  have hrd := rd_IDecl l i hlt
  have w1 : wrap64 ((i : Int) + 1) = ((i + 1 : Nat) : Int) := by rw [w64 (by omega) (by omega)]; omega
  obtain ⟨q, q1, q2⟩ := decl_same l[i].f0 l[i].f1 (hw _ (List.getElem_mem hlt))
  obtain ⟨r, r1, r2⟩ := ih (i + 1) (by omega) (by omega)
  by_cases h0 : (i : Int) > 0
  ·have w2 : wrap64 ((i : Int) - 1) = (i : Int) - 1 := w64 (by omega) (by omega)
   have hs : ∀ k, spec_DeclsOk.l0 (k + 1) l (i : Int) = (spec_DeclOk.f k l[i].f0 l[i].f1).bind fun t => if t = true then (if Op.bytesLess (rd_T44 l ((i : Int) - 1)).f0.toList l[i].f0.toList = true then spec_DeclsOk.l0 k l ((i + 1 : Nat) : Int) else some false) else some false := fun k => by
    simp only [spec_DeclsOk.l0]
    rw [if_pos (by omega), if_pos (by omega), if_pos h0, w2, if_pos (by omega), if_pos (by omega), hrd, w1]
   have hi' : ∀ k, impl_DeclsOk.l0 (k + 1) l l (l.length : Int) (i : Int) = (impl_DeclOk.f k l[i].f0 l[i].f1).bind fun t => if t = true then (if Op.bytesLess (rd_T44 l ((i : Int) - 1)).f0.toList l[i].f0.toList = true then impl_DeclsOk.l0 k l l (l.length : Int) ((i + 1 : Nat) : Int) else some false) else some false := fun k => by
    simp only [impl_DeclsOk.l0]
    rw [if_pos (by omega), if_pos (by omega), if_pos (by omega), if_pos h0, w2, if_pos (by omega), if_pos (by omega), hrd, w1]
   generalize Op.bytesLess (rd_T44 l ((i : Int) - 1)).f0.toList l[i].f0.toList = b at hs hi'
   cases q with
   | false => exact ⟨false, Ev.step hs (Ev.bind q1 (Ev.congr (fun k => by rw [if_neg (by simp)]) (Ev.now _))), Ev.step hi' (Ev.bind q2 (Ev.congr (fun k => by rw [if_neg (by simp)]) (Ev.now _)))⟩
   | true =>
    cases b with
    | false => exact ⟨false, Ev.step hs (Ev.bind q1 (Ev.congr (fun k => by rw [if_pos rfl, if_neg (by simp)]) (Ev.now _))), Ev.step hi' (Ev.bind q2 (Ev.congr (fun k => by rw [if_pos rfl, if_neg (by simp)]) (Ev.now _)))⟩
    | true => exact ⟨r, Ev.step hs (Ev.bind q1 (Ev.congr (fun k => by rw [if_pos rfl, if_pos rfl]) r1)), Ev.step hi' (Ev.bind q2 (Ev.congr (fun k => by rw [if_pos rfl, if_pos rfl]) r2))⟩
  ·have hs : ∀ k, spec_DeclsOk.l0 (k + 1) l (i : Int) = (spec_DeclOk.f k l[i].f0 l[i].f1).bind fun t => if t = true then spec_DeclsOk.l0 k l ((i + 1 : Nat) : Int) else some false := fun k => by
    simp only [spec_DeclsOk.l0]
    rw [if_pos (by omega), if_pos (by omega), if_neg h0, hrd, w1]
   have hi' : ∀ k, impl_DeclsOk.l0 (k + 1) l l (l.length : Int) (i : Int) = (impl_DeclOk.f k l[i].f0 l[i].f1).bind fun t => if t = true then impl_DeclsOk.l0 k l l (l.length : Int) ((i + 1 : Nat) : Int) else some false := fun k => by
    simp only [impl_DeclsOk.l0]
    rw [if_pos (by omega), if_pos (by omega), if_pos (by omega), if_neg h0, hrd, w1]
   cases q with
   | false => exact ⟨false, Ev.step hs (Ev.bind q1 (Ev.congr (fun k => by rw [if_neg (by simp)]) (Ev.now _))), Ev.step hi' (Ev.bind q2 (Ev.congr (fun k => by rw [if_neg (by simp)]) (Ev.now _)))⟩
   | true => exact ⟨r, Ev.step hs (Ev.bind q1 (Ev.congr (fun k => by rw [if_pos rfl]) r1)), Ev.step hi' (Ev.bind q2 (Ev.congr (fun k => by rw [if_pos rfl]) r2))⟩
theorem decls_same (l : List S44) (hl : l.length ≤ 1048576) (hw : ∀ x ∈ l, x.f0.size ≤ 1048576) : ∃ r, Ev (fun k => spec_DeclsOk.f k l) r ∧ Ev (fun k => impl_DeclsOk.f k l) r := by
 obtain ⟨r, h1, h2⟩ := decls_l l hl hw l.length 0 (by omega) (by omega)
 exact ⟨r, h1, h2⟩
def pDecl (a : ByteArray) (d : S44) : Bool := d.f0.toList == a.toList
def rSpace (a : ByteArray) (o : Option S44) : ByteArray × Bool :=
 match o with
 | some d => (d.f1, true)
 | none => (⟨#[]⟩, a.toList == [])
def spaceOf (l : List S44) (a : ByteArray) : ByteArray × Bool := rSpace a (l.reverse.find? (pDecl a))
theorem spaceOf_impl (l : List S44) (a : ByteArray) : impl_SpaceOf.f l a = some (spaceOf l a) := by
 unfold impl_SpaceOf.f spaceOf rSpace pDecl
 cases l.reverse.find? (fun d => d.f0.toList == a.toList) <;> rfl
theorem spaceOf_l0 (l : List S44) (a : ByteArray) (hl : l.length ≤ 9223372036854775807) : ∀ i : Nat, i ≤ l.length → Ev (fun k => spec_SpaceOf.l0 k l a ((i : Int) - 1)) (rSpace a ((l.take i).reverse.find? (pDecl a))) := by
 intro i
 induction i with
 | zero =>
  intro _
  refine Ev.step (fun k => ?_) (Ev.now _)
  simp only [spec_SpaceOf.l0]
  rw [if_neg (by omega)]
  rfl
 | succ i ih =>
  intro hi
  have hrd := rd_IDecl l i (by omega)
  have e1 : ((i + 1 : Nat) : Int) - 1 = (i : Int) := by omega
  rw [e1, List.take_succ_eq_append_getElem (by omega), List.reverse_append]
  simp only [List.reverse_cons, List.reverse_nil, List.nil_append, List.cons_append]
  by_cases hp : l[i].f0.toList = a.toList
  ·rw [List.find?_cons_of_pos (by unfold pDecl; simpa using hp)]
   refine Ev.step (fun k => ?_) (Ev.now _)
   simp only [spec_SpaceOf.l0]
   rw [if_pos (by omega), if_pos (by omega), if_pos (by omega), hrd, if_pos hp]
   rfl
  ·rw [List.find?_cons_of_neg (by unfold pDecl; simpa using hp)]
   refine Ev.step (fun k => ?_) (ih (by omega))
   simp only [spec_SpaceOf.l0]
   rw [if_pos (by omega), if_pos (by omega), if_pos (by omega), hrd, if_neg hp, w64 (by omega) (by omega)]
theorem spaceOf_spec (l : List S44) (a : ByteArray) (hl : l.length ≤ 9223372036854775807) : Ev (fun k => spec_SpaceOf.f k l a) (spaceOf l a) := by
 have h := spaceOf_l0 l a hl l.length (Nat.le_refl _)
 rw [List.take_length] at h
 refine Ev.congr (fun k => ?_) h
 unfold spec_SpaceOf.f
 rw [w64 (by omega) (by omega)]
theorem means_eq (l : List S44) (u a : ByteArray) : impl_PreFor.means l u a = ((spaceOf l a).2 && ((spaceOf l a).1.toList == u.toList)) := by
 unfold impl_PreFor.means
 rw [spaceOf_impl]
theorem space_bare (l : List S44) : (spaceOf l ⟨#[]⟩).2 = true := by
 unfold spaceOf
 cases l.reverse.find? (pDecl ⟨#[]⟩) with
 | some d => rfl
 | none => show ((⟨#[]⟩ : ByteArray).toList == []) = true; rw [Go.Lib.toList_data]; rfl
def rPre (o : Option S44) : ByteArray × Bool :=
 match o with
 | some d => (d.f0, true)
 | none => (⟨#[]⟩, false)
theorem preFor_l0 (l : List S44) (u : ByteArray) (hl : l.length ≤ 1048576) (d : Nat) : ∀ i : Nat, i ≤ l.length → l.length - i = d → Ev (fun k => spec_PreFor.l0 k l u (i : Int)) (rPre ((l.drop i).find? (impl_PreFor.p l u))) := by
 induction d with
 | zero =>
  intro i hi hd
  refine Ev.step (fun k => ?_) (Ev.now _)
  simp only [spec_PreFor.l0]
  rw [if_neg (by omega), List.drop_eq_nil_of_le (by omega)]
  rfl
 | succ d ih =>
  intro i hi hd
  have hlt : i < l.length := by omega
  have hrd := rd_IDecl l i hlt
  have ih' := ih (i + 1) (by omega) (by omega)
  have w1 : wrap64 ((i : Int) + 1) = ((i + 1 : Nat) : Int) := by rw [w64 (by omega) (by omega)]; omega
  rw [List.drop_eq_getElem_cons hlt]
  have hs := spaceOf_spec l l[i].f0 (by omega)
  have hp : impl_PreFor.p l u l[i] = (!(l[i].f0.toList == []) && ((spaceOf l l[i].f0).2 && ((spaceOf l l[i].f0).1.toList == u.toList))) := by
   unfold impl_PreFor.p
   rw [means_eq]
  by_cases he : l[i].f0.toList = []
  ·rw [List.find?_cons_of_neg (by rw [hp, he]; simp)]
   refine Ev.step (fun k => ?_) ih'
   simp only [spec_PreFor.l0]
   rw [if_pos (by omega), if_pos (by omega), hrd, if_pos he, w1]
  ·have hst : ∀ k, spec_PreFor.l0 (k + 1) l u (i : Int) = (spec_SpaceOf.f k l l[i].f0).bind fun bt => (if bt.2 = true then (if bt.1.toList = u.toList then (some (l[i].f0, true)) else (spec_PreFor.l0 k l u ((i + 1 : Nat) : Int))) else (spec_PreFor.l0 k l u ((i + 1 : Nat) : Int))) := fun k => by
    simp only [spec_PreFor.l0]
    rw [if_pos (by omega), if_pos (by omega), hrd, if_neg he, w1]
   by_cases h2 : (spaceOf l l[i].f0).2 = true
   ·by_cases h1 : (spaceOf l l[i].f0).1.toList = u.toList
    ·rw [List.find?_cons_of_pos (by rw [hp, h2, h1]; simp [he])]
     exact Ev.step hst (Ev.bind hs (Ev.congr (fun k => by rw [if_pos h2, if_pos h1]; rfl) (Ev.now _)))
    ·rw [List.find?_cons_of_neg (by rw [hp, h2]; simp [h1])]
     exact Ev.step hst (Ev.bind hs (Ev.congr (fun k => by rw [if_pos h2, if_neg h1]) ih'))
   ·rw [List.find?_cons_of_neg (by rw [hp]; simp [h2])]
    exact Ev.step hst (Ev.bind hs (Ev.congr (fun k => by rw [if_neg h2]) ih'))
def preFor (l : List S44) (u : ByteArray) (b : Bool) : ByteArray × Bool :=
 if (b && impl_PreFor.means l u ⟨#[]⟩) = true then (⟨#[]⟩, true) else rPre (l.find? (impl_PreFor.p l u))
theorem preFor_impl (l : List S44) (u : ByteArray) (b : Bool) : impl_PreFor.f l u b = some (preFor l u b) := by
 unfold impl_PreFor.f preFor rPre
 split
 ·rfl
 ·cases l.find? (impl_PreFor.p l u) <;> rfl
theorem preFor_spec (l : List S44) (u : ByteArray) (b : Bool) (hl : l.length ≤ 1048576) : Ev (fun k => spec_PreFor.f k l u b) (preFor l u b) := by
 have h0 : Ev (fun k => spec_PreFor.j0 k l u) (rPre (l.find? (impl_PreFor.p l u))) := Ev.step (fun k => by simp only [spec_PreFor.j0]; rfl) (preFor_l0 l u hl l.length 0 (by omega) (by omega))
 unfold preFor
 rw [means_eq, space_bare]
 cases b with
 | false => exact Ev.congr (fun k => by simp only [spec_PreFor.f]; rw [if_neg (by simp)]) (by simpa using h0)
 | true =>
  refine Ev.congr (fun k => by unfold spec_PreFor.f; rw [if_pos rfl]) (Ev.bind (spaceOf_spec l ⟨#[]⟩ (by omega)) ?_)
  by_cases h1 : (spaceOf l ⟨#[]⟩).1.toList = u.toList
  ·exact Ev.congr (fun k => by rw [if_pos h1]) (by rw [if_pos (by simpa using h1)]; exact Ev.now _)
  ·exact Ev.congr (fun k => by rw [if_neg h1]) (by rw [if_neg (by simpa using h1)]; exact h0)
theorem inner_impl (a b : List S44) (ha : a.length ≤ 1048576) (hb : b.length ≤ 1048576) : Ev (fun k => impl_Inner.f k a b) (a ++ b) := by
 have e0 : rd_L3 [a, b] 0 = a := rfl
 have e1 : rd_L3 [a, b] 1 = b := rfl
 have w0 : wrap64 (0 + (a.length : Int)) = (a.length : Int) := by rw [w64 (by omega) (by omega)]; omega
 have w1 : wrap64 ((a.length : Int) + (b.length : Int)) = (a.length : Int) + (b.length : Int) := w64 (by omega) (by omega)
 have u0 : wrap64 (0 + 1) = 1 := by unfold wrap64; omega
 have u1 : wrap64 (1 + 1) = 2 := by unfold wrap64; omega
 have hl : ((([a, b] : List (List S44)).length : Nat) : Int) = 2 := rfl
 have hg : impl_Decl_46.f [] ((a.length : Int) + (b.length : Int)) = some [] := by unfold impl_Decl_46.f; rw [if_pos (by omega), if_pos (by omega)]
 refine Ev.congr (fun k => by unfold impl_Inner.f impl_Decl_34.f; rfl) (Ev.bind ?_ (Ev.now _))
 rw [hl]
 refine Ev.step (fun k => by simp only [impl_Decl_34.l0]; rw [if_pos (by omega), if_pos (by omega), if_pos (by omega), e0, w0, if_neg (by omega), u0]) ?_
 refine Ev.step (fun k => by simp only [impl_Decl_34.l0]; rw [if_pos (by omega), if_pos (by omega), if_pos (by omega), e1, w1, if_neg (by omega), u1]) ?_
 refine Ev.step (fun k => by simp only [impl_Decl_34.l0]; rw [if_neg (by omega), hg]) ?_
 simp only [Option.bind_some]
 rw [hl]
 refine Ev.step (fun k => by simp only [impl_Decl_34.l1]; rw [if_pos (by omega), if_pos (by omega), if_pos (by omega), e0, if_pos (by simp; omega), u0]) ?_
 refine Ev.step (fun k => by simp only [impl_Decl_34.l1]; rw [if_pos (by omega), if_pos (by omega), if_pos (by omega), e1, if_pos (by simp; omega), u1]) ?_
 exact Ev.step (fun k => by simp only [impl_Decl_34.l1]; rw [if_neg (by omega)]; rfl) (Ev.now _)
/-! ### what is drawn: the cursor (b, i, h): its place stays within, every draw comes to its end -/
theorem and255 (n : Int) : Go.bits .and .i64 n 255 = n % 256 := by
 have h63 : (BitVec.ofInt 64 255).toNat = 2 ^ 8 - 1 := by decide
 have key : (BitVec.ofInt 64 n &&& BitVec.ofInt 64 255).toNat = (n % ((2 ^ 64 : Nat) : Int)).toNat % 2 ^ 8 := by
  rw [BitVec.toNat_and, BitVec.toNat_ofInt, h63, Nat.and_two_pow_sub_one_eq_mod]
 show IntKind.i64.wrap ((BitVec.ofInt 64 n &&& BitVec.ofInt 64 255).toNat : Nat) = n % 256
 rw [key, IntKind.wrap_i64]
 omega
/-- The cursor's place is within. -/
def At (b : List Int) (i : Int) : Prop := b.length ≤ 1048576 ∧ 0 ≤ i ∧ i ≤ b.length
theorem l1New_l (b : List Int) (hb : b.length ≤ 1048576) (d : Nat) : ∀ (i : Nat) (h : Int), i ≤ b.length → b.length - i = d → ∃ h', Ev (fun k => spec_l1New.l0 k b h (i : Int)) (b, 0, h') := by
 induction d with
 | zero =>
  intro i h hi hd
  exact ⟨h, Ev.step (f := fun _ => some _) (fun k => by simp only [spec_l1New.l0]; rw [if_neg (by omega)]) (Ev.now _)⟩
 | succ d ih =>
  intro i h hi hd
  have w1 : wrap64 ((i : Int) + 1) = ((i + 1 : Nat) : Int) := by rw [w64 (by omega) (by omega)]; omega
  by_cases h4 : (i : Int) < 4000
  ·obtain ⟨h', hh⟩ := ih (i + 1) _ (by omega) (by omega)
   exact ⟨h', Ev.step (fun k => by simp only [spec_l1New.l0]; rw [if_pos (by omega), if_pos h4, if_pos (by omega), w1]) hh⟩
  ·exact ⟨h, Ev.step (f := fun _ => some _) (fun k => by simp only [spec_l1New.l0]; rw [if_pos (by omega), if_neg h4]) (Ev.now _)⟩
theorem l1New_f (b : List Int) (hb : b.length ≤ 1048576) : ∃ h, Ev (fun k => spec_l1New.f k b) (b, 0, h) := by
 obtain ⟨h, hh⟩ := l1New_l b hb b.length 0 _ (by omega) (by omega)
 exact ⟨h, hh⟩
theorem at0 (b : List Int) (hb : b.length ≤ 1048576) : At b 0 := ⟨hb, by omega, by omega⟩
theorem l1Byte_f (b : List Int) (i h : Int) (ha : At b i) : ∃ x i' h', spec_l1Byte.f b i h = some (x, i', h') ∧ 0 ≤ x ∧ x < 256 ∧ At b i' := by
 obtain ⟨hb, h0, h1⟩ := ha
 unfold spec_l1Byte.f
 by_cases hlt : i < (b.length : Int)
 ·rw [if_pos hlt, if_pos h0, w64 (i := i + 1) (by omega) (by omega)]
  refine ⟨_, _, _, rfl, ?_, ?_, hb, by omega, by omega⟩
  all_goals (rw [and255]; omega)
 ·rw [if_neg hlt]
  refine ⟨_, _, _, rfl, ?_, ?_, hb, h0, h1⟩
  all_goals (rw [and255]; omega)
theorem l1Below_f (b : List Int) (i h n : Int) (ha : At b i) (hn : 1 ≤ n) : ∃ x i' h', spec_l1Below.f b i h n = some (x, i', h') ∧ 0 ≤ x ∧ x < n ∧ At b i' := by
 unfold spec_l1Below.f
 rw [if_neg (by omega)]
 obtain ⟨x, i1, h1, e1, x0, x1, a1⟩ := l1Byte_f b i h ha
 by_cases hs : n ≤ 256
 ·rw [if_pos hs, e1, Option.bind_some, if_neg (by omega)]
  exact ⟨_, _, _, rfl, Int.tmod_nonneg n x0, Int.tmod_lt_of_pos x (by omega), a1⟩
 ·rw [if_neg hs, e1, Option.bind_some]
  obtain ⟨y, i2, h2, e2, y0, y1, a2⟩ := l1Byte_f b i1 h1 a1
  simp only
  rw [e2, Option.bind_some]
  obtain ⟨z, i3, h3, e3, z0, z1, a3⟩ := l1Byte_f b i2 h2 a2
  simp only
  rw [e3, Option.bind_some, if_neg (by omega)]
  refine ⟨_, _, _, rfl, Int.tmod_nonneg n ?_, Int.tmod_lt_of_pos _ (by omega), a3⟩
  rw [w64 (i := x * 65536) (by omega) (by omega), w64 (i := y * 256) (by omega) (by omega), w64 (i := x * 65536 + y * 256) (by omega) (by omega), w64 (i := x * 65536 + y * 256 + z) (by omega) (by omega)]
  omega
theorem l1Str_f (b : List Int) (i h : Int) (l : List ByteArray) (ha : At b i) (hl : 1 ≤ l.length) : ∃ x i' h', spec_l1Str.f b i h l = some (x, i', h') ∧ x ∈ l ∧ At b i' := by
 obtain ⟨x, i1, h1, e1, x0, x1, a1⟩ := l1Below_f b i h (l.length : Int) ha (by omega)
 unfold spec_l1Str.f
 rw [e1, Option.bind_some]
 simp only
 rw [if_pos x0, if_pos x1]
 refine ⟨_, _, _, rfl, ?_, a1⟩
 have hx : x.toNat < l.length := by omega
 unfold rdOf
 rw [List.getD_eq_getElem?_getD, List.getElem?_eq_getElem hx, Option.getD_some]
 exact List.getElem_mem hx
theorem l1Once_f (b : List Int) (i h n : Int) (ha : At b i) (hn : 1 ≤ n) : ∃ x i' h', spec_l1Once.f b i h n = some (x, i', h') ∧ At b i' := by
 obtain ⟨x, i1, h1, e1, x0, x1, a1⟩ := l1Below_f b i h n ha hn
 unfold spec_l1Once.f
 rw [e1, Option.bind_some]
 exact ⟨_, _, _, rfl, a1⟩
theorem l4Uri_f (b : List Int) (i h : Int) (ha : At b i) : ∃ x i' h', spec_l4Uri.f b i h = some (x, i', h') ∧ At b i' := by
 obtain ⟨x, i1, h1, e1, _, a1⟩ := l1Str_f b i h _ ha (show 1 ≤ ([(⟨#[117, 114, 110, 58, 117]⟩ : ByteArray), (⟨#[117, 114, 110, 58, 118]⟩ : ByteArray), (⟨#[117, 114, 110, 58, 119]⟩ : ByteArray)] : List ByteArray).length by decide)
 unfold spec_l4Uri.f
 rw [e1, Option.bind_some]
 exact ⟨_, _, _, rfl, a1⟩
theorem l4Decl_f (b : List Int) (i h : Int) (ha : At b i) : ∃ p u i' h', spec_l4Decl.f b i h = some (p, u, i', h') ∧ p.size ≤ 64 ∧ At b i' := by
 obtain ⟨x, i1, h1, e1, m1, a1⟩ := l1Str_f b i h _ ha (show 1 ≤ ([(⟨#[]⟩ : ByteArray), (⟨#[112]⟩ : ByteArray), (⟨#[113]⟩ : ByteArray), (⟨#[114]⟩ : ByteArray)] : List ByteArray).length by decide)
 have hx : x.size ≤ 64 := by
  simp only [List.mem_cons, List.not_mem_nil, or_false] at m1
  rcases m1 with rfl | rfl | rfl | rfl <;> decide
 obtain ⟨u, i2, h2, e2, a2⟩ := l4Uri_f b i1 h1 a1
 obtain ⟨o, i3, h3, e3, a3⟩ := l1Once_f b i2 h2 3 a2 (by omega)
 unfold spec_l4Decl.f
 rw [e1, Option.bind_some]
 simp only
 rw [e2, Option.bind_some]
 simp only
 by_cases c : x.toList = ([] : List UInt8)
 ·rw [if_pos c, e3, Option.bind_some]
  simp only
  by_cases c2 : o = true
  ·rw [if_pos c2]
   exact ⟨_, _, _, _, rfl, hx, a3⟩
  ·rw [if_neg c2]
   exact ⟨_, _, _, _, rfl, hx, a3⟩
 ·rw [if_neg c]
  exact ⟨_, _, _, _, rfl, hx, a2⟩
def Fine (l : List S44) : Prop := ∀ x ∈ l, x.f0.size ≤ 64
theorem Fine.app {l m : List S44} (h : Fine l) (k : Fine m) : Fine (l ++ m) := fun x hx => (List.mem_append.1 hx).elim (h x) (k x)
theorem Fine.one {p u : ByteArray} (h : p.size ≤ 64) : Fine [⟨p, u⟩] := fun x hx => by
 simp only [List.mem_cons, List.not_mem_nil, or_false] at hx
 subst hx
 exact h
theorem l4Draw_l (b : List Int) : ∀ (n : Nat) (x : List S44) (i h : Int), x.length + n ≤ 1000 → Fine x → At b i →
  ∃ l i' h', Ev (fun k => spec_l4Draw.l0 k x (n : Int) b i h) (l, i', h') ∧ Fine l ∧ l.length ≤ x.length + n ∧ At b i' := by
 intro n
 induction n with
 | zero =>
  intro x i h hn hf ha
  exact ⟨x, i, h, Ev.step (f := fun _ => some _) (fun k => by simp only [spec_l4Draw.l0]; rw [if_neg (by omega)]) (Ev.now _), hf, by omega, ha⟩
 | succ n ih =>
  intro x i h hn hf ha
  obtain ⟨p, u, i1, h1, e1, hp, a1⟩ := l4Decl_f b i h ha
  have w1 : wrap64 (((n + 1 : Nat) : Int) - 1) = (n : Int) := by rw [w64 (by omega) (by omega)]; omega
  by_cases h0 : (x.length : Int) = 0
  ·obtain ⟨l, i2, h2, e2, hl, hle, a2⟩ := ih (x ++ [⟨p, u⟩]) i1 h1 (by simp; omega) (hf.app (Fine.one hp)) a1
   refine ⟨l, i2, h2, Ev.step (fun k => ?_) e2, hl, by simp at hle; omega, a2⟩
   simp only [spec_l4Draw.l0]
   rw [if_pos (by omega), e1, Option.bind_some]
   simp only
   rw [if_pos h0, if_pos (by omega), w1]
  ·have w2 : wrap64 ((x.length : Int) - 1) = (x.length : Int) - 1 := w64 (by omega) (by omega)
   by_cases hc : (Op.bytesLess (((rd_T44 x ((x.length : Int) - 1)).f0).toList) p.toList) = true
   ·obtain ⟨l, i2, h2, e2, hl, hle, a2⟩ := ih (x ++ [⟨p, u⟩]) i1 h1 (by simp; omega) (hf.app (Fine.one hp)) a1
    refine ⟨l, i2, h2, Ev.step (fun k => ?_) e2, hl, by simp at hle; omega, a2⟩
    simp only [spec_l4Draw.l0]
    rw [if_pos (by omega), e1, Option.bind_some]
    simp only
    rw [if_neg h0, w2, if_pos (by omega), if_pos (by omega), if_pos hc, if_pos (by omega), w1]
   ·obtain ⟨l, i2, h2, e2, hl, hle, a2⟩ := ih x i1 h1 (by omega) hf a1
    refine ⟨l, i2, h2, Ev.step (fun k => ?_) e2, hl, by omega, a2⟩
    simp only [spec_l4Draw.l0]
    rw [if_pos (by omega), e1, Option.bind_some]
    simp only
    rw [if_neg h0, w2, if_pos (by omega), if_pos (by omega), if_neg hc, w1]
theorem l4Draw_f (b : List Int) (i h : Int) (ha : At b i) : ∃ l i' h', Ev (fun k => spec_l4Draw.f k b i h) (l, i', h') ∧ Fine l ∧ l.length ≤ 4 ∧ At b i' := by
 obtain ⟨n, i1, h1, e1, n0, n1, a1⟩ := l1Below_f b i h 4 ha (by omega)
 obtain ⟨m, rfl⟩ := Int.eq_ofNat_of_zero_le n0
 obtain ⟨l, i2, h2, e2, hl, hle, a2⟩ := l4Draw_l b m [] i1 h1 (by simp; omega) (fun x hx => by cases hx) a1
 exact ⟨l, i2, h2, Ev.congr (fun k => by unfold spec_l4Draw.f; rw [e1, Option.bind_some]) e2, hl, by simp at hle; omega, a2⟩
theorem l4Any_f (b : List Int) (i h : Int) (ha : At b i) : ∃ l i' h', Ev (fun k => spec_l4Any.f k b i h) (l, i', h') ∧ Fine l ∧ l.length ≤ 8 ∧ At b i' := by
 obtain ⟨l, i1, h1, e1, hl, hle, a1⟩ := l4Draw_f b i h ha
 obtain ⟨n, i2, h2, e2, n0, n1, a2⟩ := l1Below_f b i1 h1 8 a1 (by omega)
 by_cases c0 : n = 0
 ·obtain ⟨p, i3, h3, e3, m3, a3⟩ := l1Str_f b i2 h2 ([(⟨#[120, 109, 108]⟩ : ByteArray), (⟨#[120, 109, 108, 110, 115]⟩ : ByteArray), (⟨#[120, 109, 108, 97]⟩ : ByteArray), (⟨#[97, 58, 98]⟩ : ByteArray), (⟨#[49]⟩ : ByteArray), (⟨#[122]⟩ : ByteArray), (⟨#[112]⟩ : ByteArray)] : List ByteArray) a2 (by decide)
  obtain ⟨u, i4, h4, e4, m4, a4⟩ := l1Str_f b i3 h3 ([(⟨#[]⟩ : ByteArray), (⟨#[117, 114, 110, 58, 117]⟩ : ByteArray), (⟨#[255]⟩ : ByteArray)] : List ByteArray) a3 (by decide)
  have hp : p.size ≤ 64 := by
   simp only [List.mem_cons, List.not_mem_nil, or_false] at m3
   rcases m3 with rfl | rfl | rfl | rfl | rfl | rfl | rfl <;> decide
  refine ⟨_, _, _, Ev.congr (fun k => by unfold spec_l4Any.f; rfl) (Ev.bind e1 (Ev.congr (f := fun _ => some _) (fun k => by simp only []; rw [e2, Option.bind_some]; simp only []; rw [if_pos c0, e3, Option.bind_some]; simp only []; rw [e4, Option.bind_some]; simp only []; rw [if_pos (by omega)]) (Ev.now _))), hl.app (Fine.one hp), by simp; omega, a4⟩
 by_cases c1 : n = 1
 ·obtain ⟨p, u, i3, h3, e3, hp, a3⟩ := l4Decl_f b i2 h2 a2
  obtain ⟨p2, u2, i4, h4, e4, hp2, a4⟩ := l4Decl_f b i3 h3 a3
  refine ⟨_, _, _, Ev.congr (fun k => by unfold spec_l4Any.f; rfl) (Ev.bind e1 (Ev.congr (f := fun _ => some _) (fun k => by simp only []; rw [e2, Option.bind_some]; simp only []; rw [if_neg c0, if_pos c1, e3, Option.bind_some]; simp only []; rw [e4, Option.bind_some]; simp only [Option.bind_some]; rw [if_pos (by simp; omega)]; rfl) (Ev.now _))), hl.app ((Fine.one hp).app (Fine.one hp2)), by simp; omega, a4⟩
 by_cases c2 : n = 2
 ·obtain ⟨u, i3, h3, e3, m3, a3⟩ := l1Str_f b i2 h2 ([(⟨#[49, 50, 51, 52, 53, 54, 55, 56, 57, 48, 49, 50, 51, 52, 53, 54, 55, 56, 57, 48, 49, 50, 51, 52, 53, 54, 55, 56, 57, 48, 49, 50, 51, 52, 53, 54, 55, 56, 57, 48]⟩ : ByteArray), (⟨#[49, 50, 51, 52, 53, 54, 55, 56, 57, 48, 49, 50, 51, 52, 53, 54, 55, 56, 57, 48, 49, 50, 51, 52, 53, 54, 55, 56, 57, 48, 49, 50, 51, 52, 53, 54, 55, 56, 57, 48, 49]⟩ : ByteArray)] : List ByteArray) a2 (by decide)
  refine ⟨_, _, _, Ev.congr (fun k => by unfold spec_l4Any.f; rfl) (Ev.bind e1 (Ev.congr (f := fun _ => some _) (fun k => by simp only []; rw [e2, Option.bind_some]; simp only []; rw [if_neg c0, if_neg c1, if_pos c2, e3, Option.bind_some]; simp only [Option.bind_some]; rw [if_pos (by simp; omega)]; rfl) (Ev.now _))), hl.app ((Fine.one (p := ⟨#[115]⟩) (u := u) (by decide)).app ((Fine.one (p := ⟨#[116]⟩) (u := ⟨#[117]⟩) (by decide)).app (Fine.one (p := ⟨#[117]⟩) (u := ⟨#[117]⟩) (by decide)))), by simp; omega, a3⟩
 ·refine ⟨_, _, _, Ev.congr (fun k => by unfold spec_l4Any.f; rfl) (Ev.bind e1 (Ev.congr (f := fun _ => some _) (fun k => by simp only []; rw [e2, Option.bind_some]; simp only []; rw [if_neg c0, if_neg c1, if_neg c2]) (Ev.now _))), hl, by omega, a2⟩
theorem preFor_good (l : List S44) (u : ByteArray) (b : Bool) (h : (preFor l u b).2 = true) : (spaceOf l (preFor l u b).1).2 = true ∧ (spaceOf l (preFor l u b).1).1.toList = u.toList := by
 have key : ∀ p, impl_PreFor.means l u p = true → (spaceOf l p).2 = true ∧ (spaceOf l p).1.toList = u.toList := fun p hm => by
  rw [means_eq] at hm
  simpa using hm
 unfold preFor at h ⊢
 by_cases c : (b && impl_PreFor.means l u ⟨#[]⟩) = true
 ·rw [if_pos c]
  exact key _ (by simp at c; exact c.2)
 ·rw [if_neg c] at h ⊢
  cases hf : l.find? (impl_PreFor.p l u) with
  | none => rw [hf] at h; cases h
  | some d =>
   have hp := List.find?_some hf
   refine key _ ?_
   unfold impl_PreFor.p at hp
   simp at hp
   exact hp.2
theorem spaceOf_app (a b : List S44) (d : S44) (hd : d ∈ b) : spaceOf (a ++ b) d.f0 = spaceOf b d.f0 ∧ (spaceOf b d.f0).2 = true := by
 cases hf : b.reverse.find? (pDecl d.f0) with
 | none =>
  have := List.find?_eq_none.1 hf d (List.mem_reverse.2 hd)
  unfold pDecl at this
  simp at this
 | some x =>
  unfold spaceOf
  rw [List.reverse_append, List.find?_append, hf]
  exact ⟨rfl, rfl⟩
theorem same_l0 (l : List S44) (hl : l.length ≤ 1048576) (d : Nat) : ∀ i : Nat, i ≤ l.length → l.length - i = d → Ev (fun k => laws_sameDecls.l0 k l l (i : Int)) true := by
 induction d with
 | zero =>
  intro i hi hd
  exact Ev.step (f := fun _ => some true) (fun k => by simp only [laws_sameDecls.l0]; rw [if_neg (by omega)]) (Ev.now _)
 | succ d ih =>
  intro i hi hd
  have w1 : wrap64 ((i : Int) + 1) = ((i + 1 : Nat) : Int) := by rw [w64 (by omega) (by omega)]; omega
  exact Ev.step (fun k => by simp only [laws_sameDecls.l0]; rw [if_pos (by omega), if_pos (by omega), if_pos (by omega), if_pos trivial, if_pos trivial, w1]) (ih (i + 1) (by omega) (by omega))
theorem same_f (l : List S44) (hl : l.length ≤ 1048576) : Ev (fun k => laws_sameDecls.f k l l) true :=
 Ev.congr (fun k => by unfold laws_sameDecls.f; rw [if_pos rfl]; rfl) (same_l0 l hl l.length 0 (by omega) (by omega))
theorem scopes_l0 (a b : List S44) (ha : a.length ≤ 1000) (hb : b.length ≤ 1000) (d : Nat) : ∀ i : Nat, i ≤ b.length → b.length - i = d → Ev (fun k => laws_FnScopes.l0 k a b (a ++ b) (i : Int)) true := by
 induction d with
 | zero =>
  intro i hi hd
  have h1 := same_f a (by omega)
  have h2 := same_f b (by omega)
  refine Ev.step (fun k => by simp only [laws_FnScopes.l0]; rw [if_neg (by omega), if_pos (by omega), if_pos (by simp; omega), Int.toNat_natCast, List.take_left' rfl, List.drop_left' rfl]) (Ev.bind h1 ?_)
  exact Ev.congr (fun k => by rw [if_pos rfl]) (Ev.bind h2 (Ev.now _))
 | succ d ih =>
  intro i hi hd
  have hlt : i < b.length := by omega
  have hrd := rd_IDecl b i hlt
  have w1 : wrap64 ((i : Int) + 1) = ((i + 1 : Nat) : Int) := by rw [w64 (by omega) (by omega)]; omega
  obtain ⟨s1, s2⟩ := spaceOf_app a b b[i] (List.getElem_mem hlt)
  refine Ev.step (fun k => ?_) (ih (i + 1) (by omega) (by omega))
  simp only [laws_FnScopes.l0]
  rw [if_pos (by omega), if_pos (by omega), hrd, spaceOf_impl, spaceOf_impl, s1]
  simp only [Option.bind_some]
  rw [if_pos trivial, if_pos s2, if_pos s2, w1]
theorem FnScopes : laws_FnScopes.Pure := by
 intro code hw
 refine Ev.rounds (r := true) ?_
 by_cases hbig : (code.length : Int) > 1048576
 ·refine Ev.congr (fun k => ?_) (Ev.now _)
  unfold laws_FnScopes.f laws_big.f
  rw [decide_eq_true hbig, Option.bind_some, if_pos rfl]
 have hb : code.length ≤ 1048576 := by omega
 have h0 := at0 code hb
 obtain ⟨h, hnew⟩ := l1New_f code hb
 obtain ⟨a, i1, h1, e1, f1, n1, a1⟩ := l4Any_f code 0 h h0
 obtain ⟨b, i2, h2, e2, f2, n2, a2⟩ := l4Any_f code i1 h1 a1
 have hI : Ev (fun k => spec_DrawInner.f k code) (a, b) := by
  refine Ev.congr (fun k => by unfold spec_DrawInner.f; rfl) ?_
  refine Ev.bind hnew (Ev.bind e1 (Ev.bind e2 ?_))
  exact Ev.now _
 obtain ⟨m2, i3, h3, e3, f3, n3, a3⟩ := l4Draw_f code i1 h1 a1
 obtain ⟨pre, i4, h4, e4, m4, a4⟩ := l1Str_f code i3 h3 ([(⟨#[]⟩ : ByteArray), (⟨#[112]⟩ : ByteArray), (⟨#[113]⟩ : ByteArray), (⟨#[114]⟩ : ByteArray), (⟨#[120]⟩ : ByteArray)] : List ByteArray) a3 (by decide)
 have hS : Ev (fun k => spec_DrawSpaceOf.f k code) (a ++ m2, pre) := by
  refine Ev.congr (fun k => by unfold spec_DrawSpaceOf.f; rfl) ?_
  refine Ev.bind hnew (Ev.bind e1 (Ev.bind e3 ?_))
  exact Ev.congr (fun k => by simp only []; rw [if_pos (by omega), e4, Option.bind_some]) (Ev.now _)
 obtain ⟨u, i5, h5, e5, a5⟩ := l4Uri_f code i3 h3 a3
 obtain ⟨o, i6, h6, e6, a6⟩ := l1Once_f code i5 h5 4 a5 (by omega)
 obtain ⟨o2, i7, h7, e7, a7⟩ := l1Once_f code i6 h6 2 a6 (by omega)
 have hP : ∃ uu, Ev (fun k => spec_DrawPreFor.f k code) (a ++ m2, uu, o2) := by
  by_cases c : o = true
  ·refine ⟨⟨#[]⟩, Ev.congr (fun k => by unfold spec_DrawPreFor.f; rfl) ?_⟩
   refine Ev.bind hnew (Ev.bind e1 (Ev.bind e3 ?_))
   exact Ev.congr (fun k => by simp only []; rw [if_pos (by omega)]; simp only [Option.bind_some]; rw [e5, Option.bind_some]; simp only []; rw [e6, Option.bind_some]; simp only []; rw [if_pos c, e7, Option.bind_some]) (Ev.now _)
  ·refine ⟨u, Ev.congr (fun k => by unfold spec_DrawPreFor.f; rfl) ?_⟩
   refine Ev.bind hnew (Ev.bind e1 (Ev.bind e3 ?_))
   exact Ev.congr (fun k => by simp only []; rw [if_pos (by omega)]; simp only [Option.bind_some]; rw [e5, Option.bind_some]; simp only []; rw [e6, Option.bind_some]; simp only []; rw [if_neg c, e7, Option.bind_some]) (Ev.now _)
 obtain ⟨uu, hP⟩ := hP
 have hD : Ev (fun k => spec_DrawDeclsOk.f k code) a := by
  refine Ev.congr (fun k => by unfold spec_DrawDeclsOk.f; rfl) ?_
  refine Ev.bind hnew (Ev.bind e1 ?_)
  exact Ev.now _
 have hlen : (a ++ m2).length ≤ 1048576 := by simp; omega
 have hi := inner_impl a b (by omega) (by omega)
 have hsp := spaceOf_spec (a ++ m2) pre (by omega)
 have hpf := preFor_spec (a ++ m2) uu o2 hlen
 obtain ⟨q, q1, q2⟩ := decls_same a (by omega) (fun x hx => by have := f1 x hx; omega)
 have hgood := preFor_good (a ++ m2) uu o2
 generalize preFor (a ++ m2) uu o2 = pp at hpf hgood
 have hpi : impl_PreFor.f (a ++ m2) uu o2 = some pp := by
  rw [preFor_impl]
  exact congrArg some (Ev.unique (preFor_spec (a ++ m2) uu o2 hlen) hpf)
 have hl0 := scopes_l0 a b (by omega) (by omega) b.length 0 (by omega) (by omega)
 have hj1 : Ev (fun k => laws_FnScopes.j1 k a b (a ++ b)) true := Ev.step (fun k => by simp only [laws_FnScopes.j1]; rfl) hl0
 have hne : (((a ++ b).length : Int) != (wrap64 ((a.length : Int) + (b.length : Int)))) = false := by
  rw [w64 (by omega) (by omega)]
  simp
 have hj0 : Ev (fun k => laws_FnScopes.j0 k a b (a ++ b) (a ++ m2) uu pp.1 pp.2 false) true := by
  refine Ev.step (fun k => by simp only [laws_FnScopes.j0]; rw [if_neg (by simp)]) ?_
  by_cases c : pp.2 = true
  ·obtain ⟨g1, g2⟩ := hgood c
   refine Ev.congr (fun k => by rw [if_pos c, spaceOf_impl, Option.bind_some, if_pos g1, if_pos g2]) hj1
  ·exact Ev.congr (fun k => by rw [if_neg c]) hj1
 refine Ev.congr (fun k => by unfold laws_FnScopes.f laws_big.f; rw [decide_eq_false hbig, Option.bind_some, if_neg (by simp)]) (Ev.bind hI (Ev.bind hi (Ev.bind hS ?_)))
 simp only [spaceOf_impl, Option.bind_some]
 refine Ev.bind hP ?_
 simp only [hpi, Option.bind_some]
 refine Ev.bind hpf (Ev.bind hD (Ev.bind hsp ?_))
 refine Ev.congr (fun k => by rw [if_pos rfl, if_neg (by simp), if_pos rfl, if_neg (by simp)]) (Ev.bind q2 (Ev.bind q1 ?_))
 exact Ev.congr (fun k => by rw [if_neg (by simp), hne]) hj0

end FnScopes_
theorem FnScopes : laws_FnScopes.Pure := FnScopes_.FnScopes
end Go.Proofs.YtehlkajccnmddaaDoor.Pure
