/- The program's IdsOf and the reference's answer alike at every tree and head; both read as they did; what it hands back is a list of its own.
Conditions: none. -/
import Derived.Test.YtdbinpeglamnnaaDoorSaidFnExactIdsOf
import Derived.Lib.RuneCountTail
import Derived.Lib.DecodeN
import Derived.Shelf.Unicode.DecodeSlow
import Derived.Lib.Strings
import Derived.WideShapes
import Derived.Lib.IndexMore
import Derived.Lib.SmallJoins
import Derived.Test.YtdbinpeglamnnaaDoorLists
namespace Go.Proofs.YtdbinpeglamnnaaDoor.Pure
open Go.RowKit Go.Proofs.YtdbinpeglamnnaaDoor.PI Go.Proofs.YtdbinpeglamnnaaDoorW.PrintWords Go.Proofs.YtdbinpeglamnnaaDoorW.PrintLast Go.Proofs.YtdbinpeglamnnaaDoor.Lists
set_option linter.unusedVariables false
set_option linter.unusedSimpArgs false

namespace FnExactIdsOf_
theorem w64 {i : Int} (h0 : -9223372036854775808 ≤ i) (h1 : i ≤ 9223372036854775807) : wrap64 i = i := by unfold wrap64; omega
def inR (n : Int) (p : Int × Int) : Bool := decide (p.1 ≤ n) && decide (n ≤ p.2)
theorem l1In_f (n lo hi : Int) : spec_l1In.f n lo hi = some (inR n (lo, hi)) := by
 unfold spec_l1In.f inR
 by_cases h : n ≥ lo
 ·rw [if_pos h]
  simp [h]
 ·rw [if_neg h]
  have : ¬ lo ≤ n := h
  simp [this]
def flat2 (zs : List (Int × Int)) : List Int := zs.flatMap fun p => [p.1, p.2]
theorem flat2_length (zs : List (Int × Int)) : (flat2 zs).length = 2 * zs.length := by
 induction zs with
 | nil => rfl
 | cons p zs ih => simp only [flat2, List.flatMap_cons, List.length_append, List.length_cons, List.length_nil] at ih ⊢; omega
theorem flat2_get (zs : List (Int × Int)) : ∀ (j : Nat) (p : Int × Int), zs[j]? = some p → (flat2 zs)[2 * j]? = some p.1 ∧ (flat2 zs)[2 * j + 1]? = some p.2 := by
 induction zs with
 | nil => intro j p h; simp at h
 | cons q zs ih =>
  intro j p h
  cases j with
  | zero =>
   simp at h
   subst h
   simp [flat2]
  | succ j =>
   have := ih j p (by simpa using h)
   simp only [flat2, List.flatMap_cons] at this ⊢
   rw [List.getElem?_append_right (by simp; omega), List.getElem?_append_right (by simp; omega)]
   have e1 : 2 * (j + 1) - [q.1, q.2].length = 2 * j := by simp; omega
   have e2 : 2 * (j + 1) + 1 - [q.1, q.2].length = 2 * j + 1 := by simp; omega
   rw [e1, e2]
   exact this
theorem ranges_l (n : Int) (zs : List (Int × Int)) (hz : zs.length ≤ 1000) (d : Nat) : ∀ j : Nat, j ≤ zs.length → zs.length - j = d →
  Ev (fun k => spec_l1Ranges.l0 k n (flat2 zs) ((2 * j : Nat) : Int)) ((zs.drop j).any (inR n)) := by
 have hlen := flat2_length zs
 induction d with
 | zero =>
  intro j hj hd
  have e : zs.drop j = [] := List.drop_eq_nil_of_le (by omega)
  rw [e]
  refine Ev.step (fun k => ?_) (Ev.now _)
  simp only [spec_l1Ranges.l0]
  rw [if_neg (by rw [w64 (by omega) (by omega)]; omega)]
  rfl
 | succ d ih =>
  intro j hj hd
  have hlt : j < zs.length := by omega
  obtain ⟨g1, g2⟩ := flat2_get zs j zs[j] (List.getElem?_eq_getElem hlt)
  have r1 : rd (flat2 zs) ((2 * j : Nat) : Int) = zs[j].1 := by simp only [rd, Int.toNat_natCast, List.getD_eq_getElem?_getD, g1, Option.getD_some]
  have r2 : rd (flat2 zs) (((2 * j : Nat) : Int) + 1) = zs[j].2 := by
   have e : (((2 * j : Nat) : Int) + 1).toNat = 2 * j + 1 := by omega
   simp only [rd, e, List.getD_eq_getElem?_getD, g2, Option.getD_some]
  have e : zs.drop j = zs[j] :: zs.drop (j + 1) := List.drop_eq_getElem_cons hlt
  rw [e, List.any_cons]
  have hs : ∀ k, spec_l1Ranges.l0 (k + 1) n (flat2 zs) ((2 * j : Nat) : Int) = if inR n zs[j] = true then some true else spec_l1Ranges.l0 k n (flat2 zs) ((2 * (j + 1) : Nat) : Int) := fun k => by
   simp only [spec_l1Ranges.l0]
   rw [w64 (by omega) (by omega), if_pos (by omega), if_pos (by omega), if_pos (by omega), if_pos (by omega), r1, r2, l1In_f]
   simp only [Option.bind_some]
   rw [w64 (by omega) (by omega)]
   rfl
  cases hq : inR n zs[j] with
  | true =>
   refine Ev.step (fun k => ?_) (Ev.now _)
   rw [hs, hq, if_pos rfl]
   rfl
  | false =>
   refine Ev.step (fun k => ?_) (ih (j + 1) (by omega) (by omega))
   rw [hs, hq, if_neg (by simp)]
theorem ranges_f (n : Int) (zs : List (Int × Int)) (hz : zs.length ≤ 1000) (l : List Int) (hl : l = flat2 zs) : Ev (fun k => spec_l1Ranges.f k n l) (zs.any (inR n)) := by
 subst hl
 exact Ev.congr (fun k => by simp [spec_l1Ranges.f]) (ranges_l n zs hz zs.length 0 (by omega) (by omega))
theorem IsStart_f (n : Int) : Ev (fun k => spec_IsStart.f k n) (impl_IsStart.l.any (inR n)) := by
 refine Ev.congr (g := fun k => spec_IsStart.f k n) (f := fun k => (spec_l1Ranges.f k n (flat2 impl_IsStart.l)).bind fun t => some t) (fun k => ?_) (Ev.bind (ranges_f n impl_IsStart.l (by decide) _ rfl) (Ev.now _))
 rfl
theorem IsPart_f (n : Int) : Ev (fun k => spec_IsPart.f k n) (impl_IsStart.l.any (inR n) || impl_IsPart.l.any (inR n)) := by
 refine Ev.congr (g := fun k => spec_IsPart.f k n) (f := fun k => (spec_IsStart.f k n).bind fun t => if t = true then some true else (spec_l1Ranges.f k n (flat2 impl_IsPart.l)).bind fun t => some t) (fun k => rfl) (Ev.bind (IsStart_f n) ?_)
 cases impl_IsStart.l.any (inR n) with
 | true => exact Ev.congr (fun k => by rw [if_pos rfl]; rfl) (Ev.now _)
 | false => exact Ev.congr (fun k => by rw [if_neg (by simp)]) (Ev.bind (ranges_f n impl_IsPart.l (by decide) _ rfl) (Ev.now _))
theorem bt_lt (s : ByteArray) (i : Int) : 0 ≤ bt s i ∧ bt s i < 256 := by
 unfold bt
 split
 ·have := (s[i.toNat]).toNat_lt
  omega
 ·omega
theorem get_bt (s : ByteArray) (i : Nat) : ((s.get! i).toNat : Int) = bt s (i : Int) := by
 unfold bt
 by_cases h : i < s.size
 ·rw [dif_pos (by simpa using h), Go.Proofs.Utf8W.get!_of_lt s i h]
  simp
 ·rw [dif_neg (by simpa using h)]
  rw [← Go.Lib.getD_get!', List.getD_eq_getElem?_getD, List.getElem?_eq_none (by rw [Array.length_toList]; exact Nat.le_of_not_lt h)]
  rfl
set_option maxRecDepth 100000 in
theorem and31 : ∀ x : Fin 256, Go.bits .and .i64 ((x.val : Nat) : Int) 31 = ((x.val % 32 : Nat) : Int) := by decide
set_option maxRecDepth 100000 in
theorem and15 : ∀ x : Fin 256, Go.bits .and .i64 ((x.val : Nat) : Int) 15 = ((x.val % 16 : Nat) : Int) := by decide
set_option maxRecDepth 100000 in
theorem and7 : ∀ x : Fin 256, Go.bits .and .i64 ((x.val : Nat) : Int) 7 = ((x.val % 8 : Nat) : Int) := by decide
theorem band31 (s : ByteArray) (i : Int) : Go.bits .and .i64 (bt s i) 31 = bt s i % 32 := by
 have h := bt_lt s i
 have := and31 ⟨(bt s i).toNat, by omega⟩
 simp only [Int.toNat_of_nonneg h.1] at this
 rw [this]; omega
theorem band15 (s : ByteArray) (i : Int) : Go.bits .and .i64 (bt s i) 15 = bt s i % 16 := by
 have h := bt_lt s i
 have := and15 ⟨(bt s i).toNat, by omega⟩
 simp only [Int.toNat_of_nonneg h.1] at this
 rw [this]; omega
theorem band7 (s : ByteArray) (i : Int) : Go.bits .and .i64 (bt s i) 7 = bt s i % 8 := by
 have h := bt_lt s i
 have := and7 ⟨(bt s i).toNat, by omega⟩
 simp only [Int.toNat_of_nonneg h.1] at this
 rw [this]; omega
/-- The sign at a place. -/
def sgn (s : ByteArray) (i : Int) : Int × Int × Bool :=
 if i < 0 ∨ (s.size : Int) ≤ i then (0, 0, false)
 else if ((Go.Utf8.decode s i.toNat).1 : Int) = 65533 ∧ ((Go.Utf8.decode s i.toNat).2 : Int) ≤ 1 then (0, 0, false)
 else (((Go.Utf8.decode s i.toNat).1 : Int), i + ((Go.Utf8.decode s i.toNat).2 : Int), true)
theorem dec_le (s : ByteArray) (i : Nat) : (Go.Utf8.decode s i).1 ≤ 1114111 ∧ 1 ≤ (Go.Utf8.decode s i).2 ∧ (Go.Utf8.decode s i).2 ≤ 4 := by
 rw [Go.Lib.decode_at]
 have h0 := (s.get! i).toNat_lt
 unfold Go.Lib.decodeN
 repeat' split
 all_goals (refine ⟨?_, ?_, ?_⟩ <;> simp only <;> omega)
theorem implSignAt_f (s : ByteArray) (i : Int) (hs : s.size ≤ 16777216) : impl_SignAt.f s i = some (sgn s i) := by
 unfold impl_SignAt.f impl_in.f sgn
 rw [w64 (by omega) (by omega)]
 by_cases h0 : i ≥ 0
 ·rw [if_pos h0]
  by_cases h1 : i ≤ (s.size : Int) - 1
  ·have hd := dec_le s i.toNat
   rw [if_neg (by omega : ¬ (i < 0 ∨ (s.size : Int) ≤ i))]
   simp only [h1, decide_true, Option.bind_some, if_true]
   rw [if_pos (by omega : (0 : Int) ≤ i), if_pos (by omega : i ≤ (s.size : Int))]
   have hdg : Go.Lib.decodeGo (s.extract i.toNat s.size) = Go.Utf8.decode s i.toNat := by
    unfold Go.Lib.decodeGo
    rw [Go.Lib.tail_size, if_neg (by omega), Go.Lib.tail_decode]
    rfl
   simp only [utf8_DecodeRuneInString.f, hdg, Option.bind_some]
   generalize hD : Go.Utf8.decode s i.toNat = d at hd ⊢
   rw [w64 (by omega) (by omega), w64 (by omega) (by omega)]
   by_cases c0 : (d.1 : Int) = 65533
   ·rw [if_pos c0]
    by_cases c1 : (d.2 : Int) ≤ 1
    ·rw [if_pos c1, if_pos ⟨c0, c1⟩]
    ·rw [if_neg c1, if_neg (fun h => c1 h.2)]
   ·rw [if_neg c0, if_neg (fun h => c0 h.1)]
  ·rw [if_pos (by omega : i < 0 ∨ (s.size : Int) ≤ i)]
   simp [h1]
 ·rw [if_neg h0, if_pos (by omega : i < 0 ∨ (s.size : Int) ≤ i)]
  rfl
theorem l0_step (k : Nat) (s : ByteArray) (i w lo c j : Int) (hs : s.size ≤ 16777216) (h0 : 0 ≤ i + j) (h1 : i + j < s.size) (hj : j ≤ w) (hj0 : 0 ≤ j) (hw : w ≤ 9) (hc0 : 0 ≤ c) (hc1 : c ≤ 100000000) :
  spec_SignAt.l0 (k + 1) s i w lo c j = if bt s (i + j) < 128 ∨ 191 < bt s (i + j) then some (0, 0, false) else spec_SignAt.l0 k s i w lo (c * 64 + bt s (i + j) - 128) (j + 1) := by
 have hb := bt_lt s (i + j)
 rw [spec_SignAt.l0, if_pos hj, w64 (i := i + j) (by omega) (by omega), if_pos h0, if_pos h1, w64 (i := bt s (i + j)) (by omega) (by omega),
  w64 (i := c * 64) (by omega) (by omega), w64 (i := c * 64 + bt s (i + j)) (by omega) (by omega), w64 (i := c * 64 + bt s (i + j) - 128) (by omega) (by omega), w64 (i := j + 1) (by omega) (by omega)]
 by_cases c0 : bt s (i + j) < 128
 ·rw [if_pos c0, if_pos (.inl c0)]
 ·rw [if_neg c0]
  by_cases c1 : bt s (i + j) > 191
  ·rw [if_pos c1, if_pos (.inr c1)]
  ·rw [if_neg c1, if_neg (by omega)]
theorem l0_end (k : Nat) (s : ByteArray) (i w lo c j : Int) (h0 : 0 ≤ i) (h1 : i ≤ 16777216) (hj : w < j) (hw0 : 0 ≤ w) (hw : w ≤ 9) :
  spec_SignAt.l0 (k + 1) s i w lo c j = some (if c < lo ∨ 1114111 < c ∨ (55296 ≤ c ∧ c ≤ 57343) then (0, 0, false) else (c, i + 1 + w, true)) := by
 rw [spec_SignAt.l0, if_neg (by omega)]
 by_cases c0 : c < lo
 ·rw [if_pos c0, if_pos (.inl c0)]
 rw [if_neg c0]
 by_cases c1 : c > 1114111
 ·rw [if_pos c1, if_pos (.inr (.inl c1))]
 rw [if_neg c1, w64 (i := i + 1) (by omega) (by omega), w64 (i := i + 1 + w) (by omega) (by omega)]
 unfold spec_l1In.f
 by_cases c2 : c ≥ 55296
 ·rw [if_pos c2]
  by_cases c3 : c ≤ 57343
  ·rw [decide_eq_true c3, Option.bind_some, if_pos rfl, if_pos (.inr (.inr ⟨c2, c3⟩))]
  ·rw [decide_eq_false c3, Option.bind_some, if_neg (by decide), if_neg (by omega)]
 ·rw [if_neg c2]
  simp only [Option.bind_some]
  rw [if_neg (by decide), if_neg (by omega)]
set_option maxHeartbeats 4000000 in
theorem specSignAt_f (k : Nat) (s : ByteArray) (i : Int) (hs : s.size ≤ 16777216) : spec_SignAt.f (k + 12) s i = some (sgn s i) := by
 unfold spec_SignAt.f sgn
 by_cases g0 : i < 0
 ·rw [if_pos g0, if_pos (.inl g0), spec_SignAt.j0, if_pos rfl]
 rw [if_neg g0]
 by_cases g1 : i ≥ (s.size : Int)
 ·rw [if_pos (.inr g1), spec_SignAt.j0, if_pos (by simpa using g1)]
 rw [if_neg (by omega : ¬ (i < 0 ∨ (s.size : Int) ≤ i)), spec_SignAt.j0, if_neg (by simpa using g1), if_pos (by omega : 0 ≤ i), if_pos (by omega : i < (s.size : Int))]
 have hb0 := bt_lt s i
 have hb1 := bt_lt s (i + 1)
 have hb2 := bt_lt s (i + 2)
 have hb3 := bt_lt s (i + 3)
 have hi : i = ((i.toNat : Nat) : Int) := by omega
 have e0 := get_bt s i.toNat
 have e1 := get_bt s (i.toNat + 1)
 have e2 := get_bt s (i.toNat + 2)
 have e3 := get_bt s (i.toNat + 3)
 rw [show ((i.toNat : Nat) : Int) = i by omega] at e0
 rw [show ((i.toNat + 1 : Nat) : Int) = i + 1 by omega] at e1
 rw [show ((i.toNat + 2 : Nat) : Int) = i + 2 by omega] at e2
 rw [show ((i.toNat + 3 : Nat) : Int) = i + 3 by omega] at e3
 have hd := Go.Lib.decode_at s i.toNat
 generalize Go.Utf8.decode s i.toNat = d at hd ⊢
 obtain ⟨d1, d2⟩ := d
 generalize s.get! i.toNat = B0 at hd e0
 generalize s.get! (i.toNat + 1) = B1 at hd e1
 generalize s.get! (i.toNat + 2) = B2 at hd e2
 generalize s.get! (i.toNat + 3) = B3 at hd e3
 simp only
 rw [w64 (i := bt s i) (by omega) (by omega), w64 (i := i + 1) (by omega) (by omega)]
 by_cases c0 : bt s i < 128
 ·rw [if_pos c0]
  unfold Go.Lib.decodeN at hd
  rw [if_pos (by omega)] at hd
  obtain ⟨rfl, rfl⟩ := Prod.mk.inj hd
  rw [if_neg (by omega), e0]
  rfl
 rw [if_neg c0]
 by_cases c1 : bt s i ≥ 192
 ·rw [if_pos c1]
  by_cases c2 : bt s i < 224
  ·rw [spec_SignAt.j1, if_pos (by simpa using c2), band31, spec_SignAt.j3, w64 (i := (s.size : Int) - 1) (by omega) (by omega), w64 (i := (s.size : Int) - 1 - 1) (by omega) (by omega)]
   have hE : (if i > (s.size : Int) - 1 - 1 then some (0, 0, false) else spec_SignAt.l0 (k + 9) s i 1 128 (bt s i % 32) 1) = (if i > (s.size : Int) - 2 then some (0, 0, false) else (if bt s (i + 1) < 128 ∨ 191 < bt s (i + 1) then some (0, 0, false) else some (if (bt s i % 32) * 64 + bt s (i + 1) - 128 < 128 ∨ 1114111 < (bt s i % 32) * 64 + bt s (i + 1) - 128 ∨ (55296 ≤ (bt s i % 32) * 64 + bt s (i + 1) - 128 ∧ (bt s i % 32) * 64 + bt s (i + 1) - 128 ≤ 57343) then (0, 0, false) else ((bt s i % 32) * 64 + bt s (i + 1) - 128, i + 1 + 1, true)))) := by
    by_cases t0 : i > (s.size : Int) - 1 - 1
    ·rw [if_pos t0, if_pos (by omega)]
    rw [if_neg t0, if_neg (by omega), l0_step (k + 8) s i 1 128 _ 1 hs (by omega) (by omega) (by omega) (by omega) (by omega) (by omega) (by omega)]
    by_cases t1 : bt s (i + 1) < 128 ∨ 191 < bt s (i + 1)
    ·rw [if_pos t1, if_pos t1]
    rw [if_neg t1, if_neg t1, l0_end (k + 7) s i 1 128 _ _ (by omega) (by omega) (by omega) (by omega) (by omega)]
   rw [hE]
   clear hE
   generalize bt s i = b0 at *
   generalize bt s (i + 1) = b1 at *
   generalize bt s (i + 2) = b2 at *
   generalize bt s (i + 3) = b3 at *
   unfold Go.Lib.decodeN at hd
   repeat' split at hd
   all_goals (simp only [Prod.mk.injEq] at hd; obtain ⟨rfl, rfl⟩ := hd; repeat' split)
   all_goals first | rfl | (exfalso; omega) | (simp only [Option.some.injEq, Prod.mk.injEq]; refine ⟨?_, ?_, ?_⟩ <;> first | omega | trivial | rfl)
  rw [spec_SignAt.j1, if_neg (by simpa using c2)]
  rw [if_pos (by omega : bt s i ≥ 224)]
  by_cases c3 : bt s i < 240
  ·rw [spec_SignAt.j2, if_pos (by simpa using c3), band15, spec_SignAt.j3, w64 (i := (s.size : Int) - 1) (by omega) (by omega), w64 (i := (s.size : Int) - 1 - 2) (by omega) (by omega)]
   have hE : (if i > (s.size : Int) - 1 - 2 then some (0, 0, false) else spec_SignAt.l0 (k + 8) s i 2 2048 (bt s i % 16) 1) = (if i > (s.size : Int) - 3 then some (0, 0, false) else (if bt s (i + 1) < 128 ∨ 191 < bt s (i + 1) then some (0, 0, false) else (if bt s (i + 2) < 128 ∨ 191 < bt s (i + 2) then some (0, 0, false) else some (if ((bt s i % 16) * 64 + bt s (i + 1) - 128) * 64 + bt s (i + 2) - 128 < 2048 ∨ 1114111 < ((bt s i % 16) * 64 + bt s (i + 1) - 128) * 64 + bt s (i + 2) - 128 ∨ (55296 ≤ ((bt s i % 16) * 64 + bt s (i + 1) - 128) * 64 + bt s (i + 2) - 128 ∧ ((bt s i % 16) * 64 + bt s (i + 1) - 128) * 64 + bt s (i + 2) - 128 ≤ 57343) then (0, 0, false) else (((bt s i % 16) * 64 + bt s (i + 1) - 128) * 64 + bt s (i + 2) - 128, i + 1 + 2, true))))) := by
    by_cases t0 : i > (s.size : Int) - 1 - 2
    ·rw [if_pos t0, if_pos (by omega)]
    rw [if_neg t0, if_neg (by omega), l0_step (k + 7) s i 2 2048 _ 1 hs (by omega) (by omega) (by omega) (by omega) (by omega) (by omega) (by omega)]
    by_cases t1 : bt s (i + 1) < 128 ∨ 191 < bt s (i + 1)
    ·rw [if_pos t1, if_pos t1]
    rw [if_neg t1, if_neg t1, show (1 + 1 : Int) = 2 from rfl, l0_step (k + 6) s i 2 2048 _ 2 hs (by omega) (by omega) (by omega) (by omega) (by omega) (by omega) (by omega)]
    by_cases t2 : bt s (i + 2) < 128 ∨ 191 < bt s (i + 2)
    ·rw [if_pos t2, if_pos t2]
    rw [if_neg t2, if_neg t2, l0_end (k + 5) s i 2 2048 _ _ (by omega) (by omega) (by omega) (by omega) (by omega)]
   rw [hE]
   clear hE
   generalize bt s i = b0 at *
   generalize bt s (i + 1) = b1 at *
   generalize bt s (i + 2) = b2 at *
   generalize bt s (i + 3) = b3 at *
   unfold Go.Lib.decodeN at hd
   repeat' split at hd
   all_goals (simp only [Prod.mk.injEq] at hd; obtain ⟨rfl, rfl⟩ := hd; repeat' split)
   all_goals first | rfl | (exfalso; omega) | (simp only [Option.some.injEq, Prod.mk.injEq]; refine ⟨?_, ?_, ?_⟩ <;> first | omega | trivial | rfl)
  rw [spec_SignAt.j2, if_neg (by simpa using c3), if_pos (by omega : bt s i ≥ 240)]
  by_cases c4 : bt s i < 248
  ·rw [if_pos c4, band7, spec_SignAt.j3, w64 (i := (s.size : Int) - 1) (by omega) (by omega), w64 (i := (s.size : Int) - 1 - 3) (by omega) (by omega)]
   have hE : (if i > (s.size : Int) - 1 - 3 then some (0, 0, false) else spec_SignAt.l0 (k + 8) s i 3 65536 (bt s i % 8) 1) = (if i > (s.size : Int) - 4 then some (0, 0, false) else (if bt s (i + 1) < 128 ∨ 191 < bt s (i + 1) then some (0, 0, false) else (if bt s (i + 2) < 128 ∨ 191 < bt s (i + 2) then some (0, 0, false) else (if bt s (i + 3) < 128 ∨ 191 < bt s (i + 3) then some (0, 0, false) else some (if (((bt s i % 8) * 64 + bt s (i + 1) - 128) * 64 + bt s (i + 2) - 128) * 64 + bt s (i + 3) - 128 < 65536 ∨ 1114111 < (((bt s i % 8) * 64 + bt s (i + 1) - 128) * 64 + bt s (i + 2) - 128) * 64 + bt s (i + 3) - 128 ∨ (55296 ≤ (((bt s i % 8) * 64 + bt s (i + 1) - 128) * 64 + bt s (i + 2) - 128) * 64 + bt s (i + 3) - 128 ∧ (((bt s i % 8) * 64 + bt s (i + 1) - 128) * 64 + bt s (i + 2) - 128) * 64 + bt s (i + 3) - 128 ≤ 57343) then (0, 0, false) else ((((bt s i % 8) * 64 + bt s (i + 1) - 128) * 64 + bt s (i + 2) - 128) * 64 + bt s (i + 3) - 128, i + 1 + 3, true)))))) := by
    by_cases t0 : i > (s.size : Int) - 1 - 3
    ·rw [if_pos t0, if_pos (by omega)]
    rw [if_neg t0, if_neg (by omega), l0_step (k + 7) s i 3 65536 _ 1 hs (by omega) (by omega) (by omega) (by omega) (by omega) (by omega) (by omega)]
    by_cases t1 : bt s (i + 1) < 128 ∨ 191 < bt s (i + 1)
    ·rw [if_pos t1, if_pos t1]
    rw [if_neg t1, if_neg t1, show (1 + 1 : Int) = 2 from rfl, l0_step (k + 6) s i 3 65536 _ 2 hs (by omega) (by omega) (by omega) (by omega) (by omega) (by omega) (by omega)]
    by_cases t2 : bt s (i + 2) < 128 ∨ 191 < bt s (i + 2)
    ·rw [if_pos t2, if_pos t2]
    rw [if_neg t2, if_neg t2, show (2 + 1 : Int) = 3 from rfl, l0_step (k + 5) s i 3 65536 _ 3 hs (by omega) (by omega) (by omega) (by omega) (by omega) (by omega) (by omega)]
    by_cases t3 : bt s (i + 3) < 128 ∨ 191 < bt s (i + 3)
    ·rw [if_pos t3, if_pos t3]
    rw [if_neg t3, if_neg t3, l0_end (k + 4) s i 3 65536 _ _ (by omega) (by omega) (by omega) (by omega) (by omega)]
   rw [hE]
   clear hE
   generalize bt s i = b0 at *
   generalize bt s (i + 1) = b1 at *
   generalize bt s (i + 2) = b2 at *
   generalize bt s (i + 3) = b3 at *
   unfold Go.Lib.decodeN at hd
   repeat' split at hd
   all_goals (simp only [Prod.mk.injEq] at hd; obtain ⟨rfl, rfl⟩ := hd; repeat' split)
   all_goals first | rfl | (exfalso; omega) | (simp only [Option.some.injEq, Prod.mk.injEq]; refine ⟨?_, ?_, ?_⟩ <;> first | omega | trivial | rfl)
  rw [if_neg c4]
  unfold Go.Lib.decodeN at hd
  rw [if_neg (by omega), if_neg (by omega), if_neg (by omega), if_neg (by omega)] at hd
  obtain ⟨rfl, rfl⟩ := Prod.mk.inj hd
  rfl
 ·rw [if_neg c1, spec_SignAt.j1, if_neg (by decide), if_neg (by omega), spec_SignAt.j2, if_neg (by decide), if_neg (by omega)]
  unfold Go.Lib.decodeN at hd
  rw [if_neg (by omega), if_neg (by omega), if_neg (by omega), if_neg (by omega)] at hd
  obtain ⟨rfl, rfl⟩ := Prod.mk.inj hd
  rfl
theorem SignAt_ev (s : ByteArray) (i : Int) (hs : s.size ≤ 16777216) : Ev (fun k => spec_SignAt.f k s i) (sgn s i) := ⟨12, fun k hk => by
 obtain ⟨m, rfl⟩ : ∃ m, k = m + 12 := ⟨k - 12, by omega⟩
 exact specSignAt_f m s i hs⟩
theorem sgn_ok (s : ByteArray) (i : Int) (h : (sgn s i).2.2 = true) : 0 ≤ i ∧ i < s.size ∧ i < (sgn s i).2.1 ∧ (sgn s i).2.1 ≤ s.size := by
 revert h
 unfold sgn
 by_cases h0 : i < 0 ∨ (s.size : Int) ≤ i
 ·rw [if_pos h0]; intro h; exact absurd h (by simp)
 rw [if_neg h0]
 have hd := Go.Lib.decode_at s i.toNat
 have hw := dec_le s i.toNat
 generalize Go.Utf8.decode s i.toNat = d at *
 obtain ⟨d1, d2⟩ := d
 by_cases h1 : (d1 : Int) = 65533 ∧ (d2 : Int) ≤ 1
 ·rw [if_pos h1]; intro h; exact absurd h (by simp)
 rw [if_neg h1]
 intro _
 have e : i + (d2 : Int) ≤ s.size := by
  unfold Go.Lib.decodeN at hd
  repeat' split at hd
  all_goals (simp only [Prod.mk.injEq] at hd; obtain ⟨rfl, rfl⟩ := hd; omega)
 simp only at hw
 exact ⟨by omega, by omega, by simp only; omega, e⟩
theorem implin_f (n lo hi : Int) : impl_in.f n lo hi = some (inR n (lo, hi)) := l1In_f n lo hi
theorem plain_l (s : ByteArray) (hs : s.size ≤ 16777216) (d : Nat) : ∀ i : Int, 0 ≤ i → i ≤ s.size → s.size - i.toNat ≤ d → ∃ r, Ev (fun k => spec_PlainOk.l0 k s i) r ∧ Ev (fun k => impl_PlainOk.l0 k s i) (r && inR s.size (1, 16)) := by
 have hend : ∀ i : Int, ¬ i < (s.size : Int) → ∃ r, Ev (fun k => spec_PlainOk.l0 k s i) r ∧ Ev (fun k => impl_PlainOk.l0 k s i) (r && inR s.size (1, 16)) := by
  intro i h
  refine ⟨true, Ev.step (fun k => ?_) (Ev.now _), Ev.step (fun k => ?_) (Ev.now _)⟩
  ·simp only [spec_PlainOk.l0]
   rw [if_neg h]
   try rfl
  ·simp only [impl_PlainOk.l0]
   rw [if_neg h, implin_f]
   try rfl
 induction d with
 | zero =>
  intro i h0 h1 hd
  exact hend i (by omega)
 | succ d ih =>
  intro i h0 h1 hd
  by_cases hlt : ¬ i < (s.size : Int)
  ·exact hend i hlt
  have hlt : i < (s.size : Int) := by omega
  have hS := SignAt_ev s i (by omega)
  have hI := implSignAt_f s i (by omega)
  have hok := sgn_ok s i
  generalize sgn s i = g at *
  have hs1 : ∀ k, spec_PlainOk.l0 (k + 1) s i = ((spec_SignAt.f k s i).bind fun bt139 => (if bt139.2.2 = true then (if i = 0 then ((spec_IsStart.f k bt139.1).bind fun t142 => (if t142 = true then ((spec_IsPart.f k bt139.1).bind fun t143 => (if t143 = true then (spec_PlainOk.l0 k s bt139.2.1) else (some false))) else (some false))) else ((spec_IsPart.f k bt139.1).bind fun t144 => (if t144 = true then (spec_PlainOk.l0 k s bt139.2.1) else (some false)))) else (some false))) := fun k => by
   simp only [spec_PlainOk.l0]
   rw [if_pos hlt]
  have hi1 : ∀ k, impl_PlainOk.l0 (k + 1) s i = (if g.2.2 = true then (if i = 0 then (if impl_IsStart.l.any (inR g.1) = true then (if (impl_IsStart.l.any (inR g.1) || impl_IsPart.l.any (inR g.1)) = true then (impl_PlainOk.l0 k s g.2.1) else (some false)) else (some false)) else (if (impl_IsStart.l.any (inR g.1) || impl_IsPart.l.any (inR g.1)) = true then (impl_PlainOk.l0 k s g.2.1) else (some false))) else (some false)) := fun k => by
   simp only [impl_PlainOk.l0]
   rw [if_pos hlt, hI]
   try rfl
  have hst := IsStart_f g.1
  have hpt := IsPart_f g.1
  by_cases hg : ¬ g.2.2 = true
  ·exact ⟨false, Ev.step hs1 (Ev.bind hS (Ev.congr (fun k => by rw [if_neg hg]) (Ev.now _))), Ev.step hi1 (Ev.congr (fun k => by rw [if_neg hg]; try rfl) (Ev.now _))⟩
  have hg := Decidable.not_not.1 hg
  obtain ⟨_, _, g1, g2⟩ := hok hg
  obtain ⟨r, hr1, hr2⟩ := ih g.2.1 (by omega) g2 (by omega)
  generalize impl_IsStart.l.any (inR g.1) = a at *
  generalize impl_IsPart.l.any (inR g.1) = b at *
  by_cases hz : i = 0
  ·cases a with
   | false =>
    refine ⟨false, Ev.step hs1 (Ev.bind hS ?_), Ev.step hi1 (Ev.congr (fun k => by rw [if_pos hg, if_pos hz]; try rfl) (Ev.now _))⟩
    exact Ev.congr (fun k => by rw [if_pos hg, if_pos hz]) (Ev.bind hst (Ev.congr (fun k => by rw [if_neg (by simp)]) (Ev.now _)))
   | true =>
    refine ⟨r, Ev.step hs1 (Ev.bind hS ?_), Ev.step hi1 (Ev.congr (fun k => by rw [if_pos hg, if_pos hz]; try rfl) hr2)⟩
    refine Ev.congr (fun k => by rw [if_pos hg, if_pos hz]) (Ev.bind hst ?_)
    refine Ev.congr (fun k => by rw [if_pos rfl]) (Ev.bind hpt ?_)
    exact Ev.congr (fun k => by rw [if_pos (by simp)]) hr1
  ·cases hq : (a || b) with
   | false =>
    rw [hq] at hpt hi1
    refine ⟨false, Ev.step hs1 (Ev.bind hS ?_), Ev.step hi1 (Ev.congr (fun k => by rw [if_pos hg, if_neg hz]; try rfl) (Ev.now _))⟩
    exact Ev.congr (fun k => by rw [if_pos hg, if_neg hz]) (Ev.bind hpt (Ev.congr (fun k => by rw [if_neg (by simp)]) (Ev.now _)))
   | true =>
    rw [hq] at hpt hi1
    refine ⟨r, Ev.step hs1 (Ev.bind hS ?_), Ev.step hi1 (Ev.congr (fun k => by rw [if_pos hg, if_neg hz]; try rfl) hr2)⟩
    exact Ev.congr (fun k => by rw [if_pos hg, if_neg hz]) (Ev.bind hpt (Ev.congr (fun k => by rw [if_pos rfl]) hr1))
theorem plain_same (s : ByteArray) (hs : s.size ≤ 16777216) : ∃ r, Ev (fun k => spec_PlainOk.f k s) r ∧ Ev (fun k => impl_PlainOk.f k s) r := by
 obtain ⟨r, h1, h2⟩ := plain_l s hs s.size 0 (by omega) (by omega) (by omega)
 refine ⟨r && inR s.size (1, 16), ?_, h2⟩
 refine Ev.congr (fun k => by simp only [spec_PlainOk.f]; rw [l1In_f, Option.bind_some]) ?_
 cases inR s.size (1, 16) with
 | false => exact Ev.congr (fun k => by rw [if_neg (by simp)]) (by rw [Bool.and_false]; exact Ev.now _)
 | true => exact Ev.congr (fun k => by rw [if_pos rfl]) (by rw [Bool.and_true]; exact h1)
theorem bt_data (s : ByteArray) (i : Nat) (h : i < s.size) : bt s (i : Int) = ((s.data.toList[i]'(by rw [← Go.Lib.size_eq]; exact h)).toNat : Int) := by
 unfold bt
 rw [dif_pos (by simpa using h)]
 simp only [Int.toNat_natCast]
 rfl
theorem nb {c d : UInt8} (h : ¬ c = d) {z : Int} (hz : z = (d.toNat : Int)) : ¬ (c.toNat : Int) = z := fun e => h (UInt8.toNat_inj.1 (by omega))
theorem occ58 (l : List UInt8) (j : Nat) : Go.Lib.occAt l [58] j = decide (l[j]? = some 58) := by
 unfold Go.Lib.occAt
 rw [Bool.eq_iff_iff, decide_eq_true_iff]
 by_cases h : j < l.length
 ·rw [List.drop_eq_getElem_cons h, List.getElem?_eq_getElem h]
  simp only [List.isPrefixOf, Bool.and_true, beq_iff_eq, Option.some.injEq]
  exact ⟨fun h => h.symm, fun h => h.symm⟩
 ·rw [List.drop_eq_nil_of_le (by omega), List.getElem?_eq_none (by omega)]
  simp [List.isPrefixOf]
theorem extract_lo (s : ByteArray) (i : Nat) : (⟨(s.data.toList.take i).toArray⟩ : ByteArray) = s.extract 0 i := by
 apply Go.WideShapes.bytes_inj
 rw [Go.Lib.extract_data]
 simp
theorem extract_hi (s : ByteArray) (i : Nat) : (⟨(s.data.toList.drop i).toArray⟩ : ByteArray) = s.extract i s.size := by
 apply Go.WideShapes.bytes_inj
 rw [Go.Lib.extract_data, Go.Lib.size_eq]
 rw [List.take_of_length_le (by simp)]
def restSplit (k : Nat) (s : ByteArray) : Option (ByteArray × ByteArray × Bool) :=
 (strings_Cut.f s (⟨#[58]⟩ : ByteArray)).bind fun bt135 => (if bt135.2.2 = true then ((impl_PlainOk.f k bt135.1).bind fun t138 => (if t138 = true then ((impl_PlainOk.f k bt135.2.1).bind fun t139 => (if t139 = true then (some (bt135.1, bt135.2.1, true)) else (some ((⟨#[]⟩ : ByteArray), (⟨#[]⟩ : ByteArray), false)))) else (some ((⟨#[]⟩ : ByteArray), (⟨#[]⟩ : ByteArray), false)))) else (some ((⟨#[]⟩ : ByteArray), (⟨#[]⟩ : ByteArray), false)))
theorem cut_hit (s : ByteArray) (hs : s.size ≤ 16777216) (i : Nat) (hi : i < s.size) (h : s.data.toList[i]? = some 58) (hno : ∀ j, j < i → s.data.toList[j]? ≠ some 58) :
  strings_Cut.f s (⟨#[58]⟩ : ByteArray) = some (s.extract 0 i, s.extract (i + 1) s.size, true) := by
 have hx : Go.Lib.index s.data.toList [58] = (i : Int) := Go.Lib.index_first (by rw [← Go.Lib.size_eq]; omega) (by rw [occ58, decide_eq_true h]) (fun j hj => by rw [occ58, decide_eq_false (hno j hj)])
 have e : (⟨#[58]⟩ : ByteArray).data.toList = [58] := rfl
 unfold strings_Cut.f
 rw [if_pos (by omega), e]
 unfold Go.Lib.cut
 rw [hx, if_pos (by omega)]
 simp only [Int.toNat_natCast, List.length_cons, List.length_nil]
 rw [extract_lo, extract_hi]
theorem cut_miss (s : ByteArray) (hs : s.size ≤ 16777216) (hno : ∀ j, j < s.size → s.data.toList[j]? ≠ some 58) :
  ∃ a b, strings_Cut.f s (⟨#[58]⟩ : ByteArray) = some (a, b, false) := by
 have hx : Go.Lib.index s.data.toList [58] = -1 := Go.Lib.index_none (fun j hj => by
  rw [occ58]
  by_cases h : j < s.size
  ·rw [decide_eq_false (hno j h)]
  ·rw [Go.Lib.size_eq] at h
   rw [List.getElem?_eq_none (by omega)]
   simp)
 have e : (⟨#[58]⟩ : ByteArray).data.toList = [58] := rfl
 unfold strings_Cut.f
 rw [if_pos (by omega), e]
 unfold Go.Lib.cut
 rw [hx, if_neg (by omega)]
 exact ⟨_, _, rfl⟩
/-- What is known of a name's parts. -/
def SplitInfo (s : ByteArray) (r : ByteArray × ByteArray × Bool) : Prop :=
 r = ((⟨#[]⟩ : ByteArray), (⟨#[]⟩ : ByteArray), false) ∨ ∃ p l, r = (p, l, true) ∧ p ++ (⟨#[58]⟩ : ByteArray) ++ l = s ∧ Ev (fun k => impl_PlainOk.f k p) true ∧ Ev (fun k => impl_PlainOk.f k l) true
theorem glue (s : ByteArray) (i : Nat) (h : s.data.toList[i]? = some 58) : s.extract 0 i ++ (⟨#[58]⟩ : ByteArray) ++ s.extract (i + 1) s.size = s := by
 obtain ⟨hi, he⟩ := List.getElem?_eq_some_iff.1 h
 apply Go.WideShapes.bytes_inj
 rw [Go.Joins.data_append, Go.Joins.data_append, ← extract_lo, ← extract_hi]
 show s.data.toList.take i ++ [58] ++ s.data.toList.drop (i + 1) = s.data.toList
 conv => rhs; rw [← List.take_append_drop i s.data.toList, List.drop_eq_getElem_cons hi, he]
 simp
theorem split_l (s : ByteArray) (hs : s.size ≤ 16777216) (d : Nat) : ∀ i : Nat, i ≤ s.size → s.size - i = d → (∀ j, j < i → s.data.toList[j]? ≠ some 58) →
  ∃ r, Ev (fun k => spec_SplitName.l0 k s (i : Int)) r ∧ Ev (fun k => restSplit k s) r ∧ SplitInfo s r := by
 induction d with
 | zero =>
  intro i hi hd hno
  have e : i = s.size := by omega
  subst e
  obtain ⟨a, b, hc⟩ := cut_miss s hs hno
  refine ⟨((⟨#[]⟩ : ByteArray), (⟨#[]⟩ : ByteArray), false), Ev.step (fun k => ?_) (Ev.now _), Ev.congr (fun k => ?_) (Ev.now _), .inl rfl⟩
  ·simp only [spec_SplitName.l0]
   rw [if_neg (by omega)]
   try rfl
  ·unfold restSplit
   rw [hc, Option.bind_some, if_neg (by simp)]
 | succ d ih =>
  intro i hi hd hno
  have hlt : i < s.size := by omega
  have hb := bt_data s i hlt
  have w1 : wrap64 ((i : Int) + 1) = ((i + 1 : Nat) : Int) := by rw [w64 (by omega) (by omega)]; omega
  have hg : s.data.toList[i]? = some (s.data.toList[i]'(by rw [← Go.Lib.size_eq]; exact hlt)) := List.getElem?_eq_getElem _
  generalize s.data.toList[i]'(by rw [← Go.Lib.size_eq]; exact hlt) = c at hb hg
  by_cases hc : c = 58
  ·subst hc
   have hcut := cut_hit s hs i hlt hg hno
   obtain ⟨p, p1, p2⟩ := plain_same (s.extract 0 i) (by rw [ByteArray.size_extract]; omega)
   obtain ⟨q, q1, q2⟩ := plain_same (s.extract (i + 1) s.size) (by rw [ByteArray.size_extract]; omega)
   have hS : ∀ k, spec_SplitName.l0 (k + 1) s (i : Int) = (spec_PlainOk.f k (s.extract 0 i)).bind fun t122 => (if t122 = true then ((spec_PlainOk.f k (s.extract (i + 1) s.size)).bind fun t123 => (if t123 = true then (some (s.extract 0 i, s.extract (i + 1) s.size, true)) else (some ((⟨#[]⟩ : ByteArray), (⟨#[]⟩ : ByteArray), false)))) else (some ((⟨#[]⟩ : ByteArray), (⟨#[]⟩ : ByteArray), false))) := fun k => by
    simp only [spec_SplitName.l0]
    rw [if_pos (by omega), if_pos (by omega), hb, if_pos (by rfl), if_pos (by omega), w1, if_pos (by omega), if_pos (by omega)]
    simp only [Int.toNat_natCast]
   have hI : ∀ k, restSplit k s = (impl_PlainOk.f k (s.extract 0 i)).bind fun t122 => (if t122 = true then ((impl_PlainOk.f k (s.extract (i + 1) s.size)).bind fun t123 => (if t123 = true then (some (s.extract 0 i, s.extract (i + 1) s.size, true)) else (some ((⟨#[]⟩ : ByteArray), (⟨#[]⟩ : ByteArray), false)))) else (some ((⟨#[]⟩ : ByteArray), (⟨#[]⟩ : ByteArray), false))) := fun k => by
    unfold restSplit
    rw [hcut, Option.bind_some, if_pos rfl]
   cases p with
   | false => exact ⟨_, Ev.step hS (Ev.bind p1 (Ev.congr (fun k => by rw [if_neg (by simp)]) (Ev.now _))), Ev.congr hI (Ev.bind p2 (Ev.congr (fun k => by rw [if_neg (by simp)]) (Ev.now _))), .inl rfl⟩
   | true =>
    cases q with
    | false =>
     refine ⟨((⟨#[]⟩ : ByteArray), (⟨#[]⟩ : ByteArray), false), Ev.step hS (Ev.bind p1 (Ev.congr (fun k => by rw [if_pos rfl]) (Ev.bind q1 ?_))), Ev.congr hI (Ev.bind p2 (Ev.congr (fun k => by rw [if_pos rfl]) (Ev.bind q2 ?_))), .inl rfl⟩
     ·exact Ev.congr (fun k => by rw [if_neg (by simp)]) (Ev.now _)
     ·exact Ev.congr (fun k => by rw [if_neg (by simp)]) (Ev.now _)
    | true =>
     refine ⟨(s.extract 0 i, s.extract (i + 1) s.size, true), Ev.step hS (Ev.bind p1 (Ev.congr (fun k => by rw [if_pos rfl]) (Ev.bind q1 ?_))), Ev.congr hI (Ev.bind p2 (Ev.congr (fun k => by rw [if_pos rfl]) (Ev.bind q2 ?_))), .inr ⟨_, _, rfl, glue s i hg, p2, q2⟩⟩
     ·exact Ev.congr (fun k => by rw [if_pos rfl]) (Ev.now _)
     ·exact Ev.congr (fun k => by rw [if_pos rfl]) (Ev.now _)
  ·obtain ⟨r, r1, r2, r3⟩ := ih (i + 1) (by omega) (by omega) (fun j hj => by
    by_cases e : j = i
    ·subst e
     rw [hg]
     intro h
     exact hc (Option.some.inj h)
    ·exact hno j (by omega))
   refine ⟨r, Ev.step (fun k => ?_) r1, r2, r3⟩
   simp only [spec_SplitName.l0]
   rw [if_pos (by omega), if_pos (by omega), hb, if_neg (nb (z := 58) hc rfl), w1]
theorem split_full (s : ByteArray) (hs : s.size ≤ 16777216) : ∃ r pl, Ev (fun k => spec_SplitName.f k s) r ∧ Ev (fun k => impl_SplitName.f k s) r ∧ Ev (fun k => impl_PlainOk.f k s) pl ∧ ((pl = true ∧ r = ((⟨#[]⟩ : ByteArray), s, true)) ∨ (pl = false ∧ SplitInfo s r)) := by
 obtain ⟨p, p1, p2⟩ := plain_same s hs
 obtain ⟨r, r1, r2, r3⟩ := split_l s hs s.size 0 (by omega) (by omega) (fun j hj => by omega)
 cases p with
 | true => exact ⟨((⟨#[]⟩ : ByteArray), s, true), true, Ev.congr (fun k => rfl) (Ev.bind p1 (Ev.congr (fun k => by rw [if_pos rfl]) (Ev.now _))), Ev.congr (fun k => rfl) (Ev.bind p2 (Ev.congr (fun k => by rw [if_pos rfl]) (Ev.now _))), p2, .inl ⟨rfl, rfl⟩⟩
 | false =>
  refine ⟨r, false, Ev.congr (fun k => rfl) (Ev.bind p1 (Ev.congr (fun k => by rw [if_neg (by simp)]; rfl) r1)), ?_, p2, .inr ⟨rfl, r3⟩⟩
  refine Ev.congr (f := fun k => (impl_PlainOk.f k s).bind fun t134 => if t134 = true then some ((⟨#[]⟩ : ByteArray), s, true) else restSplit k s) (fun k => rfl) (Ev.bind p2 (Ev.congr (fun k => by rw [if_neg (by simp)]) r2))
theorem split_same (s : ByteArray) (hs : s.size ≤ 16777216) : ∃ r, Ev (fun k => spec_SplitName.f k s) r ∧ Ev (fun k => impl_SplitName.f k s) r := by
 obtain ⟨r, _, h1, h2, _⟩ := split_full s hs
 exact ⟨r, h1, h2⟩
theorem join_same (a b : ByteArray) (ha : a.size ≤ 1048576) (hb : b.size ≤ 1048576) : ∃ r, Ev (fun k => spec_JoinName.f k a b) r ∧ Ev (fun k => impl_JoinName.f k a b) r := by
 by_cases h0 : a.toList = []
 ·obtain ⟨r, r1, r2⟩ := split_same b (by omega)
  refine ⟨if r.2.2 = true then (if r.1.toList = a.toList then (if r.2.1.toList = b.toList then b else (⟨#[]⟩ : ByteArray)) else (⟨#[]⟩ : ByteArray)) else (⟨#[]⟩ : ByteArray), ?_, ?_⟩
  ·refine Ev.congr (fun k => by simp only [spec_JoinName.f]; rw [if_pos h0]) (Ev.bind r1 (Ev.congr (f := fun _ => some _) (fun k => ?_) (Ev.now _)))
   repeat' split
   all_goals rfl
  ·refine Ev.congr (fun k => by simp only [impl_JoinName.f]; rw [if_pos h0]) (Ev.bind r2 (Ev.congr (f := fun _ => some _) (fun k => ?_) (Ev.now _)))
   repeat' split
   all_goals rfl
 ·have hz1 : (⟨#[58]⟩ : ByteArray).size = 1 := rfl
  have hz : (a ++ (⟨#[58]⟩ : ByteArray)).size = a.size + 1 := by rw [ByteArray.size_append, hz1]
  obtain ⟨r, r1, r2⟩ := split_same (a ++ (⟨#[58]⟩ : ByteArray) ++ b) (by rw [ByteArray.size_append, hz]; omega)
  refine ⟨if r.2.2 = true then (if r.1.toList = a.toList then (if r.2.1.toList = b.toList then (a ++ (⟨#[58]⟩ : ByteArray) ++ b) else (⟨#[]⟩ : ByteArray)) else (⟨#[]⟩ : ByteArray)) else (⟨#[]⟩ : ByteArray), ?_, ?_⟩
  ·refine Ev.congr (fun k => by simp only [spec_JoinName.f]; rw [if_neg h0, if_pos (by omega), if_pos (by rw [hz]; omega)]) (Ev.bind r1 (Ev.congr (f := fun _ => some _) (fun k => ?_) (Ev.now _)))
   repeat' split
   all_goals rfl
  ·refine Ev.congr (fun k => by simp only [impl_JoinName.f]; rw [if_neg h0, if_pos (by omega), if_pos (by rw [hz]; omega)]) (Ev.bind r2 (Ev.congr (f := fun _ => some _) (fun k => ?_) (Ev.now _)))
   repeat' split
   all_goals rfl
theorem rd_LDecl (l : List S76) (i : Nat) (h : i < l.length) : rd_T76 l (i : Int) = l[i] := by simp [rd_T76, List.getD_eq_getElem?_getD, List.getElem?_eq_getElem h]
def cDe (x : S76) : S89 := ⟨x.f0, x.f1⟩
theorem eqDecl_f (x : S89) : laws_eqDecl.f x.f0 x.f1 x.f0 x.f1 = some true := by
 unfold laws_eqDecl.f
 simp
def wDecl (x : S76) : Int := (x.f0.size : Int) + (x.f1.size : Int)
theorem wDecl_n (x : S76) : 0 ≤ wDecl x := by unfold wDecl; omega
theorem szDecl_f (x : S76) (left : Int) (hw : WF76 x) (h0 : 0 ≤ left) (h1 : left ≤ 1048576) : ∃ r, laws_szDecl.f x.f0 x.f1 left = some r ∧ (0 ≤ r → r + wDecl x = left) := by
 obtain ⟨h_0, h_1⟩ := hw
 unfold maxLen at h_0 h_1
 unfold laws_szDecl.f wrap64 wDecl
 split
 ·exact ⟨_, rfl, by omega⟩
 split
 ·exact ⟨_, rfl, by omega⟩
 exact ⟨_, rfl, fun _ => by omega⟩
theorem szDeclS_f (l : List S76) (hw : l.length ≤ maxLen ∧ ∀ x ∈ l, WF76 x) (left : Int) (h0 : 0 ≤ left) (h1 : left ≤ 1048576) : ∃ r, Ev (fun k => laws_szDeclS.f k l left) r ∧ (0 ≤ r → r + ((l.length : Int) + sumOf wDecl l) = left) := by
 obtain ⟨hl, hw⟩ := hw
 unfold maxLen at hl
 have e : wrap64 (left - (l.length : Int)) = left - (l.length : Int) := w64 (by omega) (by omega)
 by_cases hn : left - (l.length : Int) < 0
 ·exact ⟨-1, Ev.congr (fun k => by simp only [laws_szDeclS.f]; rw [e, if_pos hn]) (Ev.now _), fun h => by omega⟩
 ·obtain ⟨r, hr, hrw⟩ := size_all (l := l) (w := wDecl) (M := 1048576) (G := fun k left i => laws_szDeclS.l0 k l left i) (H := fun _ left i => laws_szDecl.f (rd_T76 l (i : Int)).f0 (rd_T76 l (i : Int)).f1 left) wDecl_n
   (fun k left i h0 hi => by simp only [laws_szDeclS.l0]; rw [if_pos (by omega), if_pos (by omega), w64 (by omega) (by omega)])
   (fun i hi left h0 h1 => by
    obtain ⟨r, a, b⟩ := szDecl_f l[i] left (hw _ (List.getElem_mem hi)) h0 h1
    exact ⟨r, Ev.congr (fun k => by rw [rd_LDecl l i hi]; exact a) (Ev.now r), b⟩)
   (fun k left h0 => by simp only [laws_szDeclS.l0]; rw [if_neg (by omega)]) (left - (l.length : Int)) (by omega) (by omega)
  exact ⟨r, Ev.congr (fun k => by simp only [laws_szDeclS.f]; rw [e, if_neg hn]) hr, fun h => by have := hrw h; omega⟩
theorem toDeclS_f (l : List S76) (hl : l.length ≤ 1048576) : Ev (fun k => laws_toDeclS.f k l) (l.map cDe) := by
 have h := copy_all (l := l) (f := cDe) (G := fun k x i => laws_toDeclS.l0 k l x i) (H := fun _ i => some (cDe (rd_T76 l (i : Int)))) (List.replicate l.length z89) (by simp)
  (fun k x i hx hi => by
   simp only [laws_toDeclS.l0, laws_toDecl.f, Option.bind_some]
   rw [if_pos (by omega), if_pos (by omega), if_pos (by omega), w64 (by omega) (by omega), Int.toNat_natCast]
   rfl)
  (fun i hi => by rw [rd_LDecl l i hi]; exact Ev.now _) (fun k x hx => by simp only [laws_toDeclS.l0]; rw [if_neg (by omega)])
 refine Ev.congr (fun k => ?_) h
 simp only [laws_toDeclS.f, Int.toNat_natCast]
 rw [if_pos (by omega), if_pos (by omega)]
theorem eqDeclS_f (l : List S89) (hl : l.length ≤ 1048576) : Ev (fun k => laws_eqDeclS.f k l l) true := by
 have h := all_all (n := l.length) (G := fun k i => laws_eqDeclS.l0 k l l i) (H := fun _ i => laws_eqDecl.f (rd_T89 l (i : Int)).f0 (rd_T89 l (i : Int)).f1 (rd_T89 l (i : Int)).f0 (rd_T89 l (i : Int)).f1)
  (fun k i hi => by simp only [laws_eqDeclS.l0]; rw [if_pos (by omega), if_pos (by omega), if_pos (by omega), w64 (by omega) (by omega)])
  (fun i hi => Ev.congr (fun k => eqDecl_f _) (Ev.now true)) (fun k => by simp only [laws_eqDeclS.l0]; rw [if_neg (by omega)])
 refine Ev.congr (fun k => ?_) h
 simp only [laws_eqDeclS.f]
 rw [if_pos trivial]
theorem rd_LAttr (l : List S78) (i : Nat) (h : i < l.length) : rd_T78 l (i : Int) = l[i] := by simp [rd_T78, List.getD_eq_getElem?_getD, List.getElem?_eq_getElem h]
theorem rd_IAttr (l : List S64) (i : Nat) (h : i < l.length) : rd_T64 l (i : Int) = l[i] := by simp [rd_T64, List.getD_eq_getElem?_getD, List.getElem?_eq_getElem h]
def cAt (x : S78) : S64 := ⟨x.f0, x.f1, x.f2, x.f3⟩
theorem eqAttr_f (x : S64) : laws_eqAttr.f x.f0 x.f1 x.f2 x.f3 x.f0 x.f1 x.f2 x.f3 = some true := by
 unfold laws_eqAttr.f
 simp
def wAttr (x : S78) : Int := (x.f0.size : Int) + (x.f1.size : Int) + (x.f2.size : Int) + (x.f3.size : Int)
theorem wAttr_n (x : S78) : 0 ≤ wAttr x := by unfold wAttr; omega
theorem szAttr_f (x : S78) (left : Int) (hw : WF78 x) (h0 : 0 ≤ left) (h1 : left ≤ 1048576) : ∃ r, laws_szAttr.f x.f0 x.f1 x.f2 x.f3 left = some r ∧ (0 ≤ r → r + wAttr x = left) := by
 obtain ⟨h_0, h_1, h_2, h_3⟩ := hw
 unfold maxLen at h_0 h_1 h_2 h_3
 unfold laws_szAttr.f wrap64 wAttr
 split
 ·exact ⟨_, rfl, by omega⟩
 split
 ·exact ⟨_, rfl, by omega⟩
 split
 ·exact ⟨_, rfl, by omega⟩
 split
 ·exact ⟨_, rfl, by omega⟩
 exact ⟨_, rfl, fun _ => by omega⟩
theorem szAttrS_f (l : List S78) (hw : l.length ≤ maxLen ∧ ∀ x ∈ l, WF78 x) (left : Int) (h0 : 0 ≤ left) (h1 : left ≤ 1048576) : ∃ r, Ev (fun k => laws_szAttrS.f k l left) r ∧ (0 ≤ r → r + ((l.length : Int) + sumOf wAttr l) = left) := by
 obtain ⟨hl, hw⟩ := hw
 unfold maxLen at hl
 have e : wrap64 (left - (l.length : Int)) = left - (l.length : Int) := w64 (by omega) (by omega)
 by_cases hn : left - (l.length : Int) < 0
 ·exact ⟨-1, Ev.congr (fun k => by simp only [laws_szAttrS.f]; rw [e, if_pos hn]) (Ev.now _), fun h => by omega⟩
 ·obtain ⟨r, hr, hrw⟩ := size_all (l := l) (w := wAttr) (M := 1048576) (G := fun k left i => laws_szAttrS.l0 k l left i) (H := fun _ left i => laws_szAttr.f (rd_T78 l (i : Int)).f0 (rd_T78 l (i : Int)).f1 (rd_T78 l (i : Int)).f2 (rd_T78 l (i : Int)).f3 left) wAttr_n
   (fun k left i h0 hi => by simp only [laws_szAttrS.l0]; rw [if_pos (by omega), if_pos (by omega), w64 (by omega) (by omega)])
   (fun i hi left h0 h1 => by
    obtain ⟨r, a, b⟩ := szAttr_f l[i] left (hw _ (List.getElem_mem hi)) h0 h1
    exact ⟨r, Ev.congr (fun k => by rw [rd_LAttr l i hi]; exact a) (Ev.now r), b⟩)
   (fun k left h0 => by simp only [laws_szAttrS.l0]; rw [if_neg (by omega)]) (left - (l.length : Int)) (by omega) (by omega)
  exact ⟨r, Ev.congr (fun k => by simp only [laws_szAttrS.f]; rw [e, if_neg hn]) hr, fun h => by have := hrw h; omega⟩
theorem toAttrS_f (l : List S78) (hl : l.length ≤ 1048576) : Ev (fun k => laws_toAttrS.f k l) (l.map cAt) := by
 have h := copy_all (l := l) (f := cAt) (G := fun k x i => laws_toAttrS.l0 k l x i) (H := fun _ i => some (cAt (rd_T78 l (i : Int)))) (List.replicate l.length z64) (by simp)
  (fun k x i hx hi => by
   simp only [laws_toAttrS.l0, laws_toAttr.f, Option.bind_some]
   rw [if_pos (by omega), if_pos (by omega), if_pos (by omega), w64 (by omega) (by omega), Int.toNat_natCast]
   rfl)
  (fun i hi => by rw [rd_LAttr l i hi]; exact Ev.now _) (fun k x hx => by simp only [laws_toAttrS.l0]; rw [if_neg (by omega)])
 refine Ev.congr (fun k => ?_) h
 simp only [laws_toAttrS.f, Int.toNat_natCast]
 rw [if_pos (by omega), if_pos (by omega)]
theorem eqAttrS_f (l : List S64) (hl : l.length ≤ 1048576) : Ev (fun k => laws_eqAttrS.f k l l) true := by
 have h := all_all (n := l.length) (G := fun k i => laws_eqAttrS.l0 k l l i) (H := fun _ i => laws_eqAttr.f (rd_T64 l (i : Int)).f0 (rd_T64 l (i : Int)).f1 (rd_T64 l (i : Int)).f2 (rd_T64 l (i : Int)).f3 (rd_T64 l (i : Int)).f0 (rd_T64 l (i : Int)).f1 (rd_T64 l (i : Int)).f2 (rd_T64 l (i : Int)).f3)
  (fun k i hi => by simp only [laws_eqAttrS.l0]; rw [if_pos (by omega), if_pos (by omega), if_pos (by omega), w64 (by omega) (by omega)])
  (fun i hi => Ev.congr (fun k => eqAttr_f _) (Ev.now true)) (fun k => by simp only [laws_eqAttrS.l0]; rw [if_neg (by omega)])
 refine Ev.congr (fun k => ?_) h
 simp only [laws_eqAttrS.f]
 rw [if_pos trivial]
theorem rd_LNode (l : List S26) (i : Nat) (h : i < l.length) : rd_T26 l (i : Int) = l[i] := by simp [rd_T26, List.getD_eq_getElem?_getD, List.getElem?_eq_getElem h]
theorem rd_INode (l : List S38) (i : Nat) (h : i < l.length) : rd_T38 l (i : Int) = l[i] := by simp [rd_T38, List.getD_eq_getElem?_getD, List.getElem?_eq_getElem h]
theorem kidL (x y : S26) (h : y ∈ x.f6) : SizeOf.sizeOf y < SizeOf.sizeOf x := by
 have := List.sizeOf_lt_of_mem h
 cases x
 simp at this ⊢
 omega
theorem kidI (x y : S38) (h : y ∈ x.f6) : SizeOf.sizeOf y < SizeOf.sizeOf x := by
 have := List.sizeOf_lt_of_mem h
 cases x
 simp at this ⊢
 omega
theorem indL {P : S26 → Prop} (h : ∀ x, (∀ y ∈ x.f6, P y) → P x) (x : S26) : P x := by
 have : ∀ n (x : S26), SizeOf.sizeOf x < n → P x := by
  intro n
  induction n with
  | zero => intro x hx; omega
  | succ n ih => intro x hx; exact h x (fun y hy => ih y (by have := kidL x y hy; omega))
 exact this _ x (Nat.lt_succ_self _)
theorem indI {P : S38 → Prop} (h : ∀ x, (∀ y ∈ x.f6, P y) → P x) (x : S38) : P x := by
 have : ∀ n (x : S38), SizeOf.sizeOf x < n → P x := by
  intro n
  induction n with
  | zero => intro x hx; omega
  | succ n ih => intro x hx; exact h x (fun y hy => ih y (by have := kidI x y hy; omega))
 exact this _ x (Nat.lt_succ_self _)
mutual
def wNode : S26 → Int
 | ⟨_, a, b, c, ds, ats, ks, t⟩ => (a.size : Int) + (b.size : Int) + (c.size : Int) + ((ds.length : Int) + sumOf wDecl ds) + ((ats.length : Int) + sumOf wAttr ats) + ((ks.length : Int) + wNodes ks) + (t.size : Int)
def wNodes : List S26 → Int
 | [] => 0
 | x :: xs => wNode x + wNodes xs
end
theorem wNodes_eq (l : List S26) : wNodes l = sumOf wNode l := by
 induction l with
 | nil => rfl
 | cons x l ih => rw [sumOf_cons, ← ih]; rfl
theorem wNode_eq (x : S26) : wNode x = (x.f1.size : Int) + (x.f2.size : Int) + (x.f3.size : Int) + ((x.f4.length : Int) + sumOf wDecl x.f4) + ((x.f5.length : Int) + sumOf wAttr x.f5) + ((x.f6.length : Int) + sumOf wNode x.f6) + (x.f7.size : Int) := by
 cases x
 rw [wNode, wNodes_eq]
theorem sum_nonneg_of {α : Type} {w : α → Int} {l : List α} (h : ∀ x ∈ l, 0 ≤ w x) : 0 ≤ sumOf w l := by
 induction l with
 | nil => exact Int.le_refl _
 | cons z m ihm => rw [sumOf_cons]; have := h z (List.mem_cons_self ..); have := ihm (fun x hx => h x (List.mem_cons_of_mem _ hx)); omega
theorem wNode_n (x : S26) : 0 ≤ wNode x := by
 induction x using indL with
 | h x ih =>
  rw [wNode_eq]
  have := sumOf_nonneg wDecl_n x.f4
  have := sumOf_nonneg wAttr_n x.f5
  have := sum_nonneg_of ih
  omega
theorem wNode_bounds (x : S26) : (x.f4.length : Int) ≤ wNode x ∧ (x.f5.length : Int) ≤ wNode x ∧ (x.f6.length : Int) ≤ wNode x ∧ sumOf wNode x.f6 ≤ wNode x ∧ ∀ y ∈ x.f6, wNode y ≤ wNode x := by
 rw [wNode_eq]
 have := sumOf_nonneg wDecl_n x.f4
 have := sumOf_nonneg wAttr_n x.f5
 have := sumOf_nonneg wNode_n x.f6
 refine ⟨by omega, by omega, by omega, by omega, fun y hy => ?_⟩
 have := sumOf_mem wNode_n hy
 omega
mutual
def cNo : S26 → S38
 | ⟨k, a, b, c, ds, ats, ks, t⟩ => ⟨k, a, b, c, ds.map cDe, ats.map cAt, cNos ks, t⟩
def cNos : List S26 → List S38
 | [] => []
 | x :: xs => cNo x :: cNos xs
end
theorem convNodes_eq (l : List S26) : cNos l = l.map cNo := by
 induction l with
 | nil => rfl
 | cons x l ih => rw [List.map_cons, ← ih]; rfl
theorem convNode_eq (x : S26) : cNo x = ⟨x.f0, x.f1, x.f2, x.f3, x.f4.map cDe, x.f5.map cAt, x.f6.map cNo, x.f7⟩ := by
 cases x
 rw [cNo, convNodes_eq]
mutual
def vNode : S38 → Int
 | ⟨_, _, _, _, ds, ats, ks, _⟩ => (ds.length : Int) + (ats.length : Int) + ((ks.length : Int) + vNodes ks)
def vNodes : List S38 → Int
 | [] => 0
 | x :: xs => vNode x + vNodes xs
end
theorem vNodes_eq (l : List S38) : vNodes l = sumOf vNode l := by
 induction l with
 | nil => rfl
 | cons x l ih => rw [sumOf_cons, ← ih]; rfl
theorem vNode_eq (x : S38) : vNode x = (x.f4.length : Int) + (x.f5.length : Int) + ((x.f6.length : Int) + sumOf vNode x.f6) := by
 cases x
 rw [vNode, vNodes_eq]
theorem vNode_n (x : S38) : 0 ≤ vNode x := by
 induction x using indI with
 | h x ih =>
  rw [vNode_eq]
  have := sum_nonneg_of ih
  omega
theorem vNode_bounds (x : S38) : (x.f4.length : Int) ≤ vNode x ∧ (x.f5.length : Int) ≤ vNode x ∧ (x.f6.length : Int) ≤ vNode x ∧ sumOf vNode x.f6 ≤ vNode x ∧ ∀ y ∈ x.f6, vNode y ≤ vNode x := by
 rw [vNode_eq]
 have := sumOf_nonneg vNode_n x.f6
 refine ⟨by omega, by omega, by omega, by omega, fun y hy => ?_⟩
 have := sumOf_mem vNode_n hy
 omega
theorem sumOf_map_le {α β : Type} {f : α → β} {v : β → Int} {w : α → Int} {l : List α} (h : ∀ x ∈ l, v (f x) ≤ w x) : sumOf v (l.map f) ≤ sumOf w l := by
 induction l with
 | nil => exact Int.le_refl _
 | cons z m ihm => rw [List.map_cons, sumOf_cons, sumOf_cons]; have := h z (List.mem_cons_self ..); have := ihm (fun x hx => h x (List.mem_cons_of_mem _ hx)); omega
theorem vNode_conv (x : S26) : vNode (cNo x) ≤ wNode x := by
 induction x using indL with
 | h x ih =>
  rw [wNode_eq, convNode_eq, vNode_eq]
  have := sumOf_nonneg wDecl_n x.f4
  have := sumOf_nonneg wAttr_n x.f5
  have := sumOf_map_le ih
  simp only [List.length_map]
  omega
theorem szNodeS_of (l : List S26) (hl : l.length ≤ maxLen) (hx : ∀ x ∈ l, ∀ left, 0 ≤ left → left ≤ 1048576 → ∃ r, Ev (fun k => laws_szNode.f k x.f0 x.f1 x.f2 x.f3 x.f4 x.f5 x.f6 x.f7 left) r ∧ (0 ≤ r → r + wNode x = left)) (left : Int) (h0 : 0 ≤ left) (h1 : left ≤ 1048576) :
  ∃ r, Ev (fun k => laws_szNodeS.f k l left) r ∧ (0 ≤ r → r + ((l.length : Int) + sumOf wNode l) = left) := by
 unfold maxLen at hl
 have e : wrap64 (left - (l.length : Int)) = left - (l.length : Int) := w64 (by omega) (by omega)
 by_cases hn : left - (l.length : Int) < 0
 ·exact ⟨-1, Ev.step (fun k => by simp only [laws_szNodeS.f]; rw [e, if_pos hn]) (Ev.now _), fun h => by omega⟩
 ·obtain ⟨r, hr, hrw⟩ := size_all (l := l) (w := wNode) (M := 1048576) (G := fun k left i => laws_szNodeS.l0 k l left i) (H := fun k left i => laws_szNode.f k (rd_T26 l (i : Int)).f0 (rd_T26 l (i : Int)).f1 (rd_T26 l (i : Int)).f2 (rd_T26 l (i : Int)).f3 (rd_T26 l (i : Int)).f4 (rd_T26 l (i : Int)).f5 (rd_T26 l (i : Int)).f6 (rd_T26 l (i : Int)).f7 left) wNode_n
   (fun k left i h0 hi => by simp only [laws_szNodeS.l0]; rw [if_pos (by omega), if_pos (by omega), w64 (by omega) (by omega)]; rfl)
   (fun i hi left h0 h1 => by
    obtain ⟨r, a, b⟩ := hx l[i] (List.getElem_mem hi) left h0 h1
    exact ⟨r, Ev.congr (fun k => by rw [rd_LNode l i hi]) a, b⟩)
   (fun k left h0 => by simp only [laws_szNodeS.l0]; rw [if_neg (by omega)]) (left - (l.length : Int)) (by omega) (by omega)
  exact ⟨r, Ev.step (fun k => by simp only [laws_szNodeS.f]; rw [e, if_neg hn]) hr, fun h => by have := hrw h; omega⟩
theorem szNode_f (x : S26) : WF26 x → ∀ left, 0 ≤ left → left ≤ 1048576 → ∃ r, Ev (fun k => laws_szNode.f k x.f0 x.f1 x.f2 x.f3 x.f4 x.f5 x.f6 x.f7 left) r ∧ (0 ≤ r → r + wNode x = left) := by
 induction x using indL with
 | h x ih =>
  intro hw left h0 h1
  obtain ⟨_, s0, s1, s2, s3, s4, s5, g6, s6, s7⟩ := hw
  unfold maxLen at s1 s2 s3 s7
  have nd := sumOf_nonneg wDecl_n x.f4
  have na := sumOf_nonneg wAttr_n x.f5
  have nk := sumOf_nonneg wNode_n x.f6
  rw [wNode_eq]
  have e1 : wrap64 (left - (x.f1.size : Int)) = left - (x.f1.size : Int) := w64 (by omega) (by omega)
  by_cases n1 : left - (x.f1.size : Int) < 0
  ·exact ⟨-1, Ev.congr (fun k => by simp only [laws_szNode.f, laws_szNode.F]; rw [e1, if_pos n1]) (Ev.now _), fun h => by omega⟩
  have e2 : wrap64 (left - (x.f1.size : Int) - (x.f2.size : Int)) = left - (x.f1.size : Int) - (x.f2.size : Int) := w64 (by omega) (by omega)
  by_cases n2 : left - (x.f1.size : Int) - (x.f2.size : Int) < 0
  ·exact ⟨-1, Ev.congr (fun k => by simp only [laws_szNode.f, laws_szNode.F]; rw [e1, if_neg n1, e2, if_pos n2]) (Ev.now _), fun h => by omega⟩
  have e3 : wrap64 (left - (x.f1.size : Int) - (x.f2.size : Int) - (x.f3.size : Int)) = left - (x.f1.size : Int) - (x.f2.size : Int) - (x.f3.size : Int) := w64 (by omega) (by omega)
  by_cases n3 : left - (x.f1.size : Int) - (x.f2.size : Int) - (x.f3.size : Int) < 0
  ·exact ⟨-1, Ev.congr (fun k => by simp only [laws_szNode.f, laws_szNode.F]; rw [e1, if_neg n1, e2, if_neg n2, e3, if_pos n3]) (Ev.now _), fun h => by omega⟩
  have hd : ∀ (r : Int) (g : Nat → Option Int), Ev (fun k => (laws_szDeclS.f k x.f4 (left - (x.f1.size : Int) - (x.f2.size : Int) - (x.f3.size : Int))).bind fun t108 => (if t108 < 0 then (some (-1)) else ((laws_szAttrS.f k x.f5 t108).bind fun t109 => (if t109 < 0 then (some (-1)) else ((laws_szNodeS.f k x.f6 t109).bind fun t110 => (if t110 < 0 then (some (-1)) else (if (wrap64 (t110 - (x.f7.size : Int))) < 0 then (some (-1)) else (some (wrap64 (t110 - (x.f7.size : Int))))))))))) r → Ev (fun k => laws_szNode.f k x.f0 x.f1 x.f2 x.f3 x.f4 x.f5 x.f6 x.f7 left) r := fun r g h =>
   Ev.congr (fun k => by simp only [laws_szNode.f, laws_szNode.F]; rw [e1, if_neg n1, e2, if_neg n2, e3, if_neg n3]) h
  obtain ⟨r4, hr4, hw4⟩ := szDeclS_f x.f4 s4 (left - (x.f1.size : Int) - (x.f2.size : Int) - (x.f3.size : Int)) (by omega) (by omega)
  by_cases n4 : r4 < 0
  ·exact ⟨-1, hd _ (fun _ => none) (Ev.bind hr4 (Ev.congr (fun k => by rw [if_pos n4]) (Ev.now _))), fun h => by omega⟩
  have w4 := hw4 (by omega)
  obtain ⟨r5, hr5, hw5⟩ := szAttrS_f x.f5 s5 r4 (by omega) (by omega)
  by_cases n5 : r5 < 0
  ·exact ⟨-1, hd _ (fun _ => none) (Ev.bind hr4 (Ev.congr (fun k => by rw [if_neg n4]) (Ev.bind hr5 (Ev.congr (fun k => by rw [if_pos n5]) (Ev.now _))))), fun h => by omega⟩
  have w5 := hw5 (by omega)
  obtain ⟨r6, hr6, hw6⟩ := szNodeS_of x.f6 g6 (fun y hy => ih y hy (s6 y hy)) r5 (by omega) (by omega)
  by_cases n6 : r6 < 0
  ·exact ⟨-1, hd _ (fun _ => none) (Ev.bind hr4 (Ev.congr (fun k => by rw [if_neg n4]) (Ev.bind hr5 (Ev.congr (fun k => by rw [if_neg n5]) (Ev.bind hr6 (Ev.congr (fun k => by rw [if_pos n6]) (Ev.now _))))))), fun h => by omega⟩
  have w6 := hw6 (by omega)
  have e7 : wrap64 (r6 - (x.f7.size : Int)) = r6 - (x.f7.size : Int) := w64 (by omega) (by omega)
  by_cases n7 : r6 - (x.f7.size : Int) < 0
  ·exact ⟨-1, hd _ (fun _ => none) (Ev.bind hr4 (Ev.congr (fun k => by rw [if_neg n4]) (Ev.bind hr5 (Ev.congr (fun k => by rw [if_neg n5]) (Ev.bind hr6 (Ev.congr (fun k => by rw [if_neg n6, e7, if_pos n7]) (Ev.now _))))))), fun h => by omega⟩
  ·exact ⟨r6 - (x.f7.size : Int), hd _ (fun _ => none) (Ev.bind hr4 (Ev.congr (fun k => by rw [if_neg n4]) (Ev.bind hr5 (Ev.congr (fun k => by rw [if_neg n5]) (Ev.bind hr6 (Ev.congr (fun k => by rw [if_neg n6, e7, if_neg n7]) (Ev.now _))))))), fun h => by omega⟩
theorem toNodeS_of (l : List S26) (hl : l.length ≤ 1048576) (hx : ∀ x ∈ l, Ev (fun k => laws_toNode.f k x.f0 x.f1 x.f2 x.f3 x.f4 x.f5 x.f6 x.f7) (x.f0, x.f1, x.f2, x.f3, x.f4.map cDe, x.f5.map cAt, x.f6.map cNo, x.f7)) : Ev (fun k => laws_toNodeS.f k l) (l.map cNo) := by
 have h := copy_all (l := l) (f := cNo) (G := fun k x i => laws_toNodeS.l0 k l x i) (H := fun k i => (laws_toNode.f k (rd_T26 l (i : Int)).f0 (rd_T26 l (i : Int)).f1 (rd_T26 l (i : Int)).f2 (rd_T26 l (i : Int)).f3 (rd_T26 l (i : Int)).f4 (rd_T26 l (i : Int)).f5 (rd_T26 l (i : Int)).f6 (rd_T26 l (i : Int)).f7).bind fun q => some (⟨q.1, q.2.1, q.2.2.1, q.2.2.2.1, q.2.2.2.2.1, q.2.2.2.2.2.1, q.2.2.2.2.2.2.1, q.2.2.2.2.2.2.2⟩ : S38)) (List.replicate l.length z38) (by simp)
  (fun k x i hx hi => by
   simp only [laws_toNodeS.l0]
   rw [if_pos (by omega), if_pos (by omega), w64 (by omega) (by omega), Int.toNat_natCast, Option.bind_assoc]
   simp only [Option.bind_some]
   simp only [show (i : Int) < (x.length : Int) from by omega, if_true]
   rfl)
  (fun i hi => by
   rw [rd_LNode l i hi]
   refine Ev.bind (hx l[i] (List.getElem_mem hi)) ?_
   rw [convNode_eq]
   exact Ev.now _) (fun k x hx => by simp only [laws_toNodeS.l0]; rw [if_neg (by omega)])
 refine Ev.step (fun k => ?_) h
 simp only [laws_toNodeS.f, Int.toNat_natCast]
 rw [if_pos (by omega), if_pos (by omega)]
theorem toNode_f (x : S26) : wNode x ≤ 1048576 → Ev (fun k => laws_toNode.f k x.f0 x.f1 x.f2 x.f3 x.f4 x.f5 x.f6 x.f7) (x.f0, x.f1, x.f2, x.f3, x.f4.map cDe, x.f5.map cAt, x.f6.map cNo, x.f7) := by
 induction x using indL with
 | h x ih =>
  intro hw
  obtain ⟨b4, b5, b6, _, bk⟩ := wNode_bounds x
  refine Ev.congr (g := fun k => laws_toNode.f k x.f0 x.f1 x.f2 x.f3 x.f4 x.f5 x.f6 x.f7) (f := fun k => (laws_toDeclS.f k x.f4).bind fun d => (laws_toAttrS.f k x.f5).bind fun a => (laws_toNodeS.f k x.f6).bind fun n => some (x.f0, x.f1, x.f2, x.f3, d, a, n, x.f7)) (fun k => rfl) ?_
  refine Ev.bind (toDeclS_f x.f4 (by omega)) (Ev.bind (toAttrS_f x.f5 (by omega)) (Ev.bind (toNodeS_of x.f6 (by omega) (fun y hy => ih y hy (by have := bk y hy; omega))) (Ev.now _)))
theorem eqNodeS_of (l : List S38) (hl : l.length ≤ 1048576) (hx : ∀ x ∈ l, Ev (fun k => laws_eqNode.f k x.f0 x.f1 x.f2 x.f3 x.f4 x.f5 x.f6 x.f7 x.f0 x.f1 x.f2 x.f3 x.f4 x.f5 x.f6 x.f7) true) : Ev (fun k => laws_eqNodeS.f k l l) true := by
 have h := all_all (n := l.length) (G := fun k i => laws_eqNodeS.l0 k l l i) (H := fun k i => laws_eqNode.f k (rd_T38 l (i : Int)).f0 (rd_T38 l (i : Int)).f1 (rd_T38 l (i : Int)).f2 (rd_T38 l (i : Int)).f3 (rd_T38 l (i : Int)).f4 (rd_T38 l (i : Int)).f5 (rd_T38 l (i : Int)).f6 (rd_T38 l (i : Int)).f7 (rd_T38 l (i : Int)).f0 (rd_T38 l (i : Int)).f1 (rd_T38 l (i : Int)).f2 (rd_T38 l (i : Int)).f3 (rd_T38 l (i : Int)).f4 (rd_T38 l (i : Int)).f5 (rd_T38 l (i : Int)).f6 (rd_T38 l (i : Int)).f7)
  (fun k i hi => by simp only [laws_eqNodeS.l0]; rw [if_pos (by omega), if_pos (by omega), if_pos (by omega), w64 (by omega) (by omega)]; rfl)
  (fun i hi => by rw [rd_INode l i hi]; exact hx l[i] (List.getElem_mem hi)) (fun k => by simp only [laws_eqNodeS.l0]; rw [if_neg (by omega)])
 refine Ev.step (fun k => ?_) h
 simp only [laws_eqNodeS.f]
 rw [if_pos trivial]
theorem eqNode_f (x : S38) : vNode x ≤ 1048576 → Ev (fun k => laws_eqNode.f k x.f0 x.f1 x.f2 x.f3 x.f4 x.f5 x.f6 x.f7 x.f0 x.f1 x.f2 x.f3 x.f4 x.f5 x.f6 x.f7) true := by
 induction x using indI with
 | h x ih =>
  intro hw
  obtain ⟨b4, b5, b6, _, bk⟩ := vNode_bounds x
  refine Ev.congr (f := fun k => (laws_eqDeclS.f k x.f4 x.f4).bind fun t => (if t = true then ((laws_eqAttrS.f k x.f5 x.f5).bind fun t => (if t = true then ((laws_eqNodeS.f k x.f6 x.f6).bind fun t => (if t = true then some true else some false)) else (some false))) else (some false))) (fun k => by simp [laws_eqNode.f, laws_eqNode.F]) ?_
  refine Ev.bind (eqDeclS_f x.f4 (by omega)) (Ev.congr (fun k => by rw [if_pos rfl]) (Ev.bind (eqAttrS_f x.f5 (by omega)) (Ev.congr (fun k => by rw [if_pos rfl]) (Ev.bind (eqNodeS_of x.f6 (by omega) (fun y hy => ih y hy (by have := bk y hy; omega))) (Ev.congr (fun k => by rw [if_pos rfl]) (Ev.now _))))))
theorem rd_LEnt (l : List S81) (i : Nat) (h : i < l.length) : rd_T81 l (i : Int) = l[i] := by simp [rd_T81, List.getD_eq_getElem?_getD, List.getElem?_eq_getElem h]
def convEnt (x : S81) : S92 := ⟨x.f0, x.f1⟩
theorem eqEnt_f (x : S92) : laws_eqEnt.f x.f0 x.f1 x.f0 x.f1 = some true := by
 unfold laws_eqEnt.f
 simp
def wEnt (x : S81) : Int := (x.f0.size : Int) + (x.f1.size : Int)
theorem wEnt_nonneg (x : S81) : 0 ≤ wEnt x := by unfold wEnt; omega
theorem szEnt_f (x : S81) (left : Int) (hw : WF81 x) (h0 : 0 ≤ left) (h1 : left ≤ 1048576) : ∃ r, laws_szEnt.f x.f0 x.f1 left = some r ∧ (0 ≤ r → r + wEnt x = left) := by
 obtain ⟨h_0, h_1⟩ := hw
 unfold maxLen at h_0 h_1
 unfold laws_szEnt.f wrap64 wEnt
 split
 ·exact ⟨_, rfl, by omega⟩
 split
 ·exact ⟨_, rfl, by omega⟩
 exact ⟨_, rfl, fun _ => by omega⟩
theorem szEntS_f (l : List S81) (hw : l.length ≤ maxLen ∧ ∀ x ∈ l, WF81 x) (left : Int) (h0 : 0 ≤ left) (h1 : left ≤ 1048576) : ∃ r, Ev (fun k => laws_szEntS.f k l left) r ∧ (0 ≤ r → r + ((l.length : Int) + sumOf wEnt l) = left) := by
 obtain ⟨hl, hw⟩ := hw
 unfold maxLen at hl
 have e : wrap64 (left - (l.length : Int)) = left - (l.length : Int) := w64 (by omega) (by omega)
 by_cases hn : left - (l.length : Int) < 0
 ·exact ⟨-1, Ev.congr (fun k => by simp only [laws_szEntS.f]; rw [e, if_pos hn]) (Ev.now _), fun h => by omega⟩
 ·obtain ⟨r, hr, hrw⟩ := size_all (l := l) (w := wEnt) (M := 1048576) (G := fun k left i => laws_szEntS.l0 k l left i) (H := fun _ left i => laws_szEnt.f (rd_T81 l (i : Int)).f0 (rd_T81 l (i : Int)).f1 left) wEnt_nonneg
   (fun k left i h0 hi => by simp only [laws_szEntS.l0]; rw [if_pos (by omega), if_pos (by omega), w64 (by omega) (by omega)])
   (fun i hi left h0 h1 => by
    obtain ⟨r, a, b⟩ := szEnt_f l[i] left (hw _ (List.getElem_mem hi)) h0 h1
    exact ⟨r, Ev.congr (fun k => by rw [rd_LEnt l i hi]; exact a) (Ev.now r), b⟩)
   (fun k left h0 => by simp only [laws_szEntS.l0]; rw [if_neg (by omega)]) (left - (l.length : Int)) (by omega) (by omega)
  exact ⟨r, Ev.congr (fun k => by simp only [laws_szEntS.f]; rw [e, if_neg hn]) hr, fun h => by have := hrw h; omega⟩
theorem toEntS_f (l : List S81) (hl : l.length ≤ 1048576) : Ev (fun k => laws_toEntS.f k l) (l.map convEnt) := by
 have h := copy_all (l := l) (f := convEnt) (G := fun k x i => laws_toEntS.l0 k l x i) (H := fun _ i => some (convEnt (rd_T81 l (i : Int)))) (List.replicate l.length z92) (by simp)
  (fun k x i hx hi => by
   simp only [laws_toEntS.l0, laws_toEnt.f, Option.bind_some]
   rw [if_pos (by omega), if_pos (by omega), if_pos (by omega), w64 (by omega) (by omega), Int.toNat_natCast]
   rfl)
  (fun i hi => by rw [rd_LEnt l i hi]; exact Ev.now _) (fun k x hx => by simp only [laws_toEntS.l0]; rw [if_neg (by omega)])
 refine Ev.congr (fun k => ?_) h
 simp only [laws_toEntS.f, Int.toNat_natCast]
 rw [if_pos (by omega), if_pos (by omega)]
theorem eqEntS_f (l : List S92) (hl : l.length ≤ 1048576) : Ev (fun k => laws_eqEntS.f k l l) true := by
 have h := all_all (n := l.length) (G := fun k i => laws_eqEntS.l0 k l l i) (H := fun _ i => laws_eqEnt.f (rd_T92 l (i : Int)).f0 (rd_T92 l (i : Int)).f1 (rd_T92 l (i : Int)).f0 (rd_T92 l (i : Int)).f1)
  (fun k i hi => by simp only [laws_eqEntS.l0]; rw [if_pos (by omega), if_pos (by omega), if_pos (by omega), w64 (by omega) (by omega)])
  (fun i hi => Ev.congr (fun k => eqEnt_f _) (Ev.now true)) (fun k => by simp only [laws_eqEntS.l0]; rw [if_neg (by omega)])
 refine Ev.congr (fun k => ?_) h
 simp only [laws_eqEntS.f]
 rw [if_pos trivial]
theorem rd_LDef (l : List S84) (i : Nat) (h : i < l.length) : rd_T84 l (i : Int) = l[i] := by simp [rd_T84, List.getD_eq_getElem?_getD, List.getElem?_eq_getElem h]
theorem rd_IDef (l : List S85) (i : Nat) (h : i < l.length) : rd_T85 l (i : Int) = l[i] := by simp [rd_T85, List.getD_eq_getElem?_getD, List.getElem?_eq_getElem h]
def convDef (x : S84) : S85 := ⟨x.f0, x.f1, x.f2, x.f3, x.f4⟩
theorem eqDef_f (x : S85) : laws_eqDef.f x.f0 x.f1 x.f2 x.f3 x.f4 x.f0 x.f1 x.f2 x.f3 x.f4 = some true := by
 unfold laws_eqDef.f
 simp
def wDef (x : S84) : Int := (x.f0.size : Int) + (x.f1.size : Int) + (x.f4.size : Int)
theorem wDef_nonneg (x : S84) : 0 ≤ wDef x := by unfold wDef; omega
theorem szDef_f (x : S84) (left : Int) (hw : WF84 x) (h0 : 0 ≤ left) (h1 : left ≤ 1048576) : ∃ r, laws_szDef.f x.f0 x.f1 x.f2 x.f3 x.f4 left = some r ∧ (0 ≤ r → r + wDef x = left) := by
 obtain ⟨h_0, h_1, h_2, h_3, h_4⟩ := hw
 unfold maxLen at h_0 h_1 h_4
 unfold laws_szDef.f wrap64 wDef
 split
 ·exact ⟨_, rfl, by omega⟩
 split
 ·exact ⟨_, rfl, by omega⟩
 split
 ·exact ⟨_, rfl, by omega⟩
 exact ⟨_, rfl, fun _ => by omega⟩
theorem szDefS_f (l : List S84) (hw : l.length ≤ maxLen ∧ ∀ x ∈ l, WF84 x) (left : Int) (h0 : 0 ≤ left) (h1 : left ≤ 1048576) : ∃ r, Ev (fun k => laws_szDefS.f k l left) r ∧ (0 ≤ r → r + ((l.length : Int) + sumOf wDef l) = left) := by
 obtain ⟨hl, hw⟩ := hw
 unfold maxLen at hl
 have e : wrap64 (left - (l.length : Int)) = left - (l.length : Int) := w64 (by omega) (by omega)
 by_cases hn : left - (l.length : Int) < 0
 ·exact ⟨-1, Ev.congr (fun k => by simp only [laws_szDefS.f]; rw [e, if_pos hn]) (Ev.now _), fun h => by omega⟩
 ·obtain ⟨r, hr, hrw⟩ := size_all (l := l) (w := wDef) (M := 1048576) (G := fun k left i => laws_szDefS.l0 k l left i) (H := fun _ left i => laws_szDef.f (rd_T84 l (i : Int)).f0 (rd_T84 l (i : Int)).f1 (rd_T84 l (i : Int)).f2 (rd_T84 l (i : Int)).f3 (rd_T84 l (i : Int)).f4 left) wDef_nonneg
   (fun k left i h0 hi => by simp only [laws_szDefS.l0]; rw [if_pos (by omega), if_pos (by omega), w64 (by omega) (by omega)])
   (fun i hi left h0 h1 => by
    obtain ⟨r, a, b⟩ := szDef_f l[i] left (hw _ (List.getElem_mem hi)) h0 h1
    exact ⟨r, Ev.congr (fun k => by rw [rd_LDef l i hi]; exact a) (Ev.now r), b⟩)
   (fun k left h0 => by simp only [laws_szDefS.l0]; rw [if_neg (by omega)]) (left - (l.length : Int)) (by omega) (by omega)
  exact ⟨r, Ev.congr (fun k => by simp only [laws_szDefS.f]; rw [e, if_neg hn]) hr, fun h => by have := hrw h; omega⟩
theorem toDefS_f (l : List S84) (hl : l.length ≤ 1048576) : Ev (fun k => laws_toDefS.f k l) (l.map convDef) := by
 have h := copy_all (l := l) (f := convDef) (G := fun k x i => laws_toDefS.l0 k l x i) (H := fun _ i => some (convDef (rd_T84 l (i : Int)))) (List.replicate l.length z85) (by simp)
  (fun k x i hx hi => by
   simp only [laws_toDefS.l0, laws_toDef.f, Option.bind_some]
   rw [if_pos (by omega), if_pos (by omega), if_pos (by omega), w64 (by omega) (by omega), Int.toNat_natCast]
   rfl)
  (fun i hi => by rw [rd_LDef l i hi]; exact Ev.now _) (fun k x hx => by simp only [laws_toDefS.l0]; rw [if_neg (by omega)])
 refine Ev.congr (fun k => ?_) h
 simp only [laws_toDefS.f, Int.toNat_natCast]
 rw [if_pos (by omega), if_pos (by omega)]
theorem eqDefS_f (l : List S85) (hl : l.length ≤ 1048576) : Ev (fun k => laws_eqDefS.f k l l) true := by
 have h := all_all (n := l.length) (G := fun k i => laws_eqDefS.l0 k l l i) (H := fun _ i => laws_eqDef.f (rd_T85 l (i : Int)).f0 (rd_T85 l (i : Int)).f1 (rd_T85 l (i : Int)).f2 (rd_T85 l (i : Int)).f3 (rd_T85 l (i : Int)).f4 (rd_T85 l (i : Int)).f0 (rd_T85 l (i : Int)).f1 (rd_T85 l (i : Int)).f2 (rd_T85 l (i : Int)).f3 (rd_T85 l (i : Int)).f4)
  (fun k i hi => by simp only [laws_eqDefS.l0]; rw [if_pos (by omega), if_pos (by omega), if_pos (by omega), w64 (by omega) (by omega)])
  (fun i hi => Ev.congr (fun k => eqDef_f _) (Ev.now true)) (fun k => by simp only [laws_eqDefS.l0]; rw [if_neg (by omega)])
 refine Ev.congr (fun k => ?_) h
 simp only [laws_eqDefS.f]
 rw [if_pos trivial]
theorem strOfNums_size (xs : List Int) : (strOfNums xs).size = xs.length := by
 unfold strOfNums
 simp [ByteArray.size]
theorem markText_l0 (n : Nat) : ∀ (i : Int) (acc : ByteArray), 0 ≤ i → i.toNat ≤ n → i ≤ 1152921504606846976 → (acc.size : Int) + i ≤ 2305843009213693952 → ∃ t, Ev (fun k => laws_markText.l0 k i acc) t := by
 induction n using Nat.strongRecOn with
 | _ n ih =>
  intro i acc h0 hn hi ha
  by_cases hp : i > 0
  ·have e1 : Int.tdiv i 10 = i / 10 := Int.tdiv_eq_ediv_of_nonneg h0
   have hs : (strOfNums [wrap64 (48 + (Int.tmod i 10)) % 256]).size = 1 := by rw [strOfNums_size]; rfl
   have hap : ((strOfNums [wrap64 (48 + (Int.tmod i 10)) % 256]) ++ acc).size = 1 + acc.size := by rw [ByteArray.size_append, hs]
   obtain ⟨t, ht⟩ := ih (i / 10).toNat (by omega) (i / 10) ((strOfNums [wrap64 (48 + (Int.tmod i 10)) % 256]) ++ acc) (by omega) (by omega) (by omega) (by rw [hap]; omega)
   refine ⟨t, Ev.step (fun k => ?_) ht⟩
   simp only [laws_markText.l0, Option.bind_some]
   rw [if_pos hp, if_pos (by rw [hs]; omega), e1, w64 (by omega) (by omega)]
  ·refine ⟨(⟨#[109]⟩ : ByteArray) ++ acc, Ev.step (fun k => ?_) (Ev.now _)⟩
   simp only [laws_markText.l0]
   rw [if_neg hp, if_pos (by omega)]
theorem markText_ex (i : Int) (hi : i ≤ 1152921504606846976) : ∃ t, Ev (fun k => laws_markText.f k i) t := by
 by_cases h : i ≤ 0
 ·exact ⟨_, Ev.congr (fun k => by simp only [laws_markText.f]; rw [if_pos h]) (Ev.now _)⟩
 ·obtain ⟨t, ht⟩ := markText_l0 i.toNat i ⟨#[]⟩ (by omega) (by omega) hi (by show ((0 : Nat) : Int) + i ≤ _; omega)
  exact ⟨t, Ev.congr (fun k => by simp only [laws_markText.f]; rw [if_neg h]) ht⟩
open Classical in
/-- What markText writes of a number. -/
noncomputable def mT (i : Int) : ByteArray := if h : ∃ t, Ev (fun k => laws_markText.f k i) t then h.choose else ⟨#[]⟩
theorem mT_ev (i : Int) (hi : i ≤ 1152921504606846976) : Ev (fun k => laws_markText.f k i) (mT i) := by
 have h := markText_ex i hi
 unfold mT
 rw [dif_pos h]
 exact h.choose_spec
theorem marks_from {α : Type} {n : Nat} {c : Int} (hc : 0 ≤ c) {G : Nat → List α → Int → Int → Option (Int × List α)}
  (hs : ∀ (x : List α) (a : Int) (i : Nat), x.length = n → i < n → 0 ≤ a → a ≤ 1099511627776 → ∃ y, y.length = n ∧ ∀ q, Ev (fun k => G k y (a + c) ((i : Int) + 1)) q → Ev (fun k => G k x a (i : Int)) q)
  (he : ∀ k x a, x.length = n → G (k + 1) x a (n : Int) = some (a, x)) (d : Nat) :
  ∀ (i : Nat) (x : List α) (a : Int), x.length = n → i ≤ n → n - i = d → 0 ≤ a → a + c * (d : Int) ≤ 1099511627776 → ∃ y, y.length = n ∧ Ev (fun k => G k x a (i : Int)) (a + c * (d : Int), y) := by
 induction d with
 | zero =>
  intro i x a hx hi hd h0 h1
  have e : i = n := by omega
  subst e
  exact ⟨x, hx, Ev.step (f := fun _ => some (a + c * ((0 : Nat) : Int), x)) (fun k => by rw [he k x a hx]; simp) (Ev.now _)⟩
 | succ d ih =>
  intro i x a hx hi hd h0 h1
  have e1 : c * ((d + 1 : Nat) : Int) = c * (d : Int) + c := by rw [Int.natCast_add, Int.mul_add]; simp
  have h2 : 0 ≤ c * (d : Int) := Int.mul_nonneg hc (by omega)
  obtain ⟨y, hy, hq⟩ := hs x a i hx (by omega) h0 (by omega)
  obtain ⟨z, hz, hr⟩ := ih (i + 1) y (a + c) hy (by omega) (by omega) (by omega) (by omega)
  refine ⟨z, hz, hq _ ?_⟩
  have e2 : a + c + c * (d : Int) = a + c * ((d + 1 : Nat) : Int) := by omega
  rw [← e2]
  simpa using hr
theorem rdset_Decl (x : List S89) (i : Nat) (h : i < x.length) (v : S89) : rd_T89 (x.set i v) (i : Int) = v := by simp [rd_T89, List.getD_eq_getElem?_getD, h]
theorem mkDecl_step (x : List S89) (a : Int) (i : Nat) (h : i < x.length) (hx : x.length ≤ 4194304) (h0 : 0 ≤ a) (h1 : a ≤ 1099511627776) (k : Nat) : laws_markDeclS.l0 (k + 1) x a (i : Int) = (laws_markText.f k (a)).bind fun t0 => (laws_markText.f k (a + 1)).bind fun t1 => laws_markDeclS.l0 k (x.set i ⟨t0, t1⟩) (a + 1 + 1) ((i : Int) + 1) := by
 have w1 : wrap64 (a + 1) = a + 1 := w64 (by omega) (by omega)
 have w2 : wrap64 (a + 1 + 1) = a + 1 + 1 := w64 (by omega) (by omega)
 have wi : wrap64 ((i : Int) + 1) = (i : Int) + 1 := w64 (by omega) (by omega)
 have hi0 : (0 : Int) ≤ (i : Int) := by omega
 simp only [laws_markDeclS.l0]
 rw [if_pos (by omega)]
 simp only [Option.bind_some, w1, w2, wi, if_pos hi0, Int.toNat_natCast, List.set_set, rdset_Decl x i h]
/-- The list behind marks from a on. -/
noncomputable def mDecl (a : Int) (n : Nat) : List S89 := (List.range n).map fun (i : Nat) => ⟨mT (a + 2 * (i : Int)), mT (a + 2 * (i : Int) + 1)⟩
theorem mDecl_get (a : Int) (n i : Nat) (h : i < n) : (mDecl a n)[i]? = some ⟨mT (a + 2 * (i : Int)), mT (a + 2 * (i : Int) + 1)⟩ := by simp [mDecl, h]
theorem mDecl_length (a : Int) (n : Nat) : (mDecl a n).length = n := by simp [mDecl]
theorem markDecl_l0 (a : Int) (n : Nat) (hn : n ≤ 4194304) (ha : 0 ≤ a ∧ a ≤ 549755813888) (d : Nat) : ∀ (i : Nat) (x : List S89), x.length = n → i ≤ n → n - i = d → (∀ j, j < i → x[j]? = (mDecl a n)[j]?) →
  Ev (fun k => laws_markDeclS.l0 k x (a + 2 * (i : Int)) (i : Int)) (a + 2 * (n : Int), mDecl a n) := by
 induction d with
 | zero =>
  intro i x hx hi hd hj
  have e : i = n := by omega
  subst e
  have ex : x = mDecl a i := List.ext_getElem? (fun j => by
   by_cases hlt : j < i
   ·exact hj j hlt
   ·rw [List.getElem?_eq_none (by omega), List.getElem?_eq_none (by rw [mDecl_length]; omega)])
  refine Ev.step (f := fun _ => some (a + 2 * (i : Int), x)) (fun k => ?_) (by rw [ex]; exact Ev.now _)
  simp only [laws_markDeclS.l0]
  rw [if_neg (by omega)]
 | succ d ih =>
  intro i x hx hi hd hj
  have hlt : i < n := by omega
  refine Ev.step (mkDecl_step x (a + 2 * (i : Int)) i (by omega) (by omega) (by omega) (by omega)) (Ev.bind (mT_ev _ (by omega)) (Ev.bind (mT_ev _ (by omega)) ?_))
  have e1 : a + 2 * (i : Int) + 1 + 1 = a + 2 * ((i + 1 : Nat) : Int) := by omega
  have e2 : (i : Int) + 1 = ((i + 1 : Nat) : Int) := by omega
  rw [e1, e2]
  refine ih (i + 1) _ (by rw [List.length_set]; exact hx) (by omega) (by omega) (fun j hj2 => ?_)
  by_cases e : j = i
  ·subst e
   rw [List.getElem?_set_self (by omega), mDecl_get a n j hlt]
  ·rw [List.getElem?_set_ne (by omega)]
   exact hj j (by omega)
theorem markDecl_f (a : Int) (x : List S89) (hn : x.length ≤ 4194304) (ha : 0 ≤ a ∧ a ≤ 549755813888) : Ev (fun k => laws_markDeclS.f k x a) (a + 2 * (x.length : Int), mDecl a x.length) := by
 have h := markDecl_l0 a x.length hn ha x.length 0 x rfl (by omega) (by omega) (fun j hj => by omega)
 refine Ev.congr (fun k => ?_) h
 simp [laws_markDeclS.f]
theorem rdset_Attr (x : List S64) (i : Nat) (h : i < x.length) (v : S64) : rd_T64 (x.set i v) (i : Int) = v := by simp [rd_T64, List.getD_eq_getElem?_getD, h]
theorem mkAttr_step (x : List S64) (a : Int) (i : Nat) (h : i < x.length) (hx : x.length ≤ 4194304) (h0 : 0 ≤ a) (h1 : a ≤ 1099511627776) (k : Nat) : laws_markAttrS.l0 (k + 1) x a (i : Int) = (laws_markText.f k (a)).bind fun t0 => (laws_markText.f k (a + 1)).bind fun t1 => (laws_markText.f k (a + 1 + 1)).bind fun t2 => (laws_markText.f k (a + 1 + 1 + 1)).bind fun t3 => laws_markAttrS.l0 k (x.set i ⟨t0, t1, t2, t3⟩) (a + 1 + 1 + 1 + 1) ((i : Int) + 1) := by
 have w1 : wrap64 (a + 1) = a + 1 := w64 (by omega) (by omega)
 have w2 : wrap64 (a + 1 + 1) = a + 1 + 1 := w64 (by omega) (by omega)
 have w3 : wrap64 (a + 1 + 1 + 1) = a + 1 + 1 + 1 := w64 (by omega) (by omega)
 have w4 : wrap64 (a + 1 + 1 + 1 + 1) = a + 1 + 1 + 1 + 1 := w64 (by omega) (by omega)
 have wi : wrap64 ((i : Int) + 1) = (i : Int) + 1 := w64 (by omega) (by omega)
 have hi0 : (0 : Int) ≤ (i : Int) := by omega
 simp only [laws_markAttrS.l0]
 rw [if_pos (by omega)]
 simp only [Option.bind_some, w1, w2, w3, w4, wi, if_pos hi0, Int.toNat_natCast, List.set_set, rdset_Attr x i h]
/-- The list behind marks from a on. -/
noncomputable def mAttr (a : Int) (n : Nat) : List S64 := (List.range n).map fun (i : Nat) => ⟨mT (a + 4 * (i : Int)), mT (a + 4 * (i : Int) + 1), mT (a + 4 * (i : Int) + 1 + 1), mT (a + 4 * (i : Int) + 1 + 1 + 1)⟩
theorem mAttr_get (a : Int) (n i : Nat) (h : i < n) : (mAttr a n)[i]? = some ⟨mT (a + 4 * (i : Int)), mT (a + 4 * (i : Int) + 1), mT (a + 4 * (i : Int) + 1 + 1), mT (a + 4 * (i : Int) + 1 + 1 + 1)⟩ := by simp [mAttr, h]
theorem mAttr_length (a : Int) (n : Nat) : (mAttr a n).length = n := by simp [mAttr]
theorem rdopt_Attr (l : List S64) (i : Nat) (x : S64) (h : l[i]? = some x) : rd_T64 l (i : Int) = x := by simp [rd_T64, List.getD_eq_getElem?_getD, h]
theorem markAttr_l0 (a : Int) (n : Nat) (hn : n ≤ 4194304) (ha : 0 ≤ a ∧ a ≤ 549755813888) (d : Nat) : ∀ (i : Nat) (x : List S64), x.length = n → i ≤ n → n - i = d → (∀ j, j < i → x[j]? = (mAttr a n)[j]?) →
  Ev (fun k => laws_markAttrS.l0 k x (a + 4 * (i : Int)) (i : Int)) (a + 4 * (n : Int), mAttr a n) := by
 induction d with
 | zero =>
  intro i x hx hi hd hj
  have e : i = n := by omega
  subst e
  have ex : x = mAttr a i := List.ext_getElem? (fun j => by
   by_cases hlt : j < i
   ·exact hj j hlt
   ·rw [List.getElem?_eq_none (by omega), List.getElem?_eq_none (by rw [mAttr_length]; omega)])
  refine Ev.step (f := fun _ => some (a + 4 * (i : Int), x)) (fun k => ?_) (by rw [ex]; exact Ev.now _)
  simp only [laws_markAttrS.l0]
  rw [if_neg (by omega)]
 | succ d ih =>
  intro i x hx hi hd hj
  have hlt : i < n := by omega
  refine Ev.step (mkAttr_step x (a + 4 * (i : Int)) i (by omega) (by omega) (by omega) (by omega)) (Ev.bind (mT_ev _ (by omega)) (Ev.bind (mT_ev _ (by omega)) (Ev.bind (mT_ev _ (by omega)) (Ev.bind (mT_ev _ (by omega)) ?_))))
  have e1 : a + 4 * (i : Int) + 1 + 1 + 1 + 1 = a + 4 * ((i + 1 : Nat) : Int) := by omega
  have e2 : (i : Int) + 1 = ((i + 1 : Nat) : Int) := by omega
  rw [e1, e2]
  refine ih (i + 1) _ (by rw [List.length_set]; exact hx) (by omega) (by omega) (fun j hj2 => ?_)
  by_cases e : j = i
  ·subst e
   rw [List.getElem?_set_self (by omega), mAttr_get a n j hlt]
  ·rw [List.getElem?_set_ne (by omega)]
   exact hj j (by omega)
theorem markAttr_f (a : Int) (x : List S64) (hn : x.length ≤ 4194304) (ha : 0 ≤ a ∧ a ≤ 549755813888) : Ev (fun k => laws_markAttrS.f k x a) (a + 4 * (x.length : Int), mAttr a x.length) := by
 have h := markAttr_l0 a x.length hn ha x.length 0 x rfl (by omega) (by omega) (fun j hj => by omega)
 refine Ev.congr (fun k => ?_) h
 simp [laws_markAttrS.f]
theorem heldAttr_l0 (a : Int) (n : Nat) (hn : n ≤ 4194304) (ha : 0 ≤ a ∧ a ≤ 549755813888) (d : Nat) : ∀ i : Nat, i ≤ n → n - i = d → Ev (fun k => laws_heldAttrS.l0 k (mAttr a n) (a + 4 * (i : Int)) (i : Int)) (a + 4 * (n : Int)) := by
 have hlen := mAttr_length a n
 induction d with
 | zero =>
  intro i hi hd
  have e : i = n := by omega
  subst e
  refine Ev.step (fun k => ?_) (Ev.now _)
  simp only [laws_heldAttrS.l0]
  rw [if_neg (by omega)]
 | succ d ih =>
  intro i hi hd
  have hlt : i < n := by omega
  have c0 : (0 : Int) ≤ (i : Int) := by omega
  have c1 : (i : Int) < ((mAttr a n).length : Int) := by omega
  have i1 : i + 1 ≤ n := by omega
  have i2 : n - (i + 1) = d := by omega
  have q0 : a + 4 * (i : Int) ≤ 1152921504606846976 := by omega
  have q1 : a + 4 * (i : Int) + 1 ≤ 1152921504606846976 := by omega
  have q2 : a + 4 * (i : Int) + 1 + 1 ≤ 1152921504606846976 := by omega
  have q3 : a + 4 * (i : Int) + 1 + 1 + 1 ≤ 1152921504606846976 := by omega
  have w1 : wrap64 (a + 4 * (i : Int) + 1) = a + 4 * (i : Int) + 1 := w64 (by omega) (by omega)
  have w2 : wrap64 (a + 4 * (i : Int) + 1 + 1) = a + 4 * (i : Int) + 1 + 1 := w64 (by omega) (by omega)
  have w3 : wrap64 (a + 4 * (i : Int) + 1 + 1 + 1) = a + 4 * (i : Int) + 1 + 1 + 1 := w64 (by omega) (by omega)
  have w4 : wrap64 (a + 4 * (i : Int) + 1 + 1 + 1 + 1) = a + 4 * (i : Int) + 1 + 1 + 1 + 1 := w64 (by omega) (by omega)
  have wi : wrap64 ((i : Int) + 1) = ((i + 1 : Nat) : Int) := by rw [w64 (by omega) (by omega)]; omega
  have e1 : a + 4 * (i : Int) + 1 + 1 + 1 + 1 = a + 4 * ((i + 1 : Nat) : Int) := by omega
  have hrd := rdopt_Attr (mAttr a n) i _ (mAttr_get a n i hlt)
  refine Ev.step (fun k => by simp only [laws_heldAttrS.l0]; rw [if_pos c1, if_pos c0, w1, w2, w3, w4, wi, hrd]) (Ev.bind (mT_ev (a + 4 * (i : Int)) q0) ?_)
  refine Ev.congr (fun k => by rw [if_pos rfl]) (Ev.bind (mT_ev (a + 4 * (i : Int) + 1) q1) ?_)
  refine Ev.congr (fun k => by rw [if_pos rfl]) (Ev.bind (mT_ev (a + 4 * (i : Int) + 1 + 1) q2) ?_)
  refine Ev.congr (fun k => by rw [if_pos rfl]) (Ev.bind (mT_ev (a + 4 * (i : Int) + 1 + 1 + 1) q3) ?_)
  exact Ev.congr (fun k => by rw [if_pos rfl, e1]) (ih (i + 1) i1 i2)
theorem heldAttr_f (a : Int) (n : Nat) (hn : n ≤ 4194304) (ha : 0 ≤ a ∧ a ≤ 549755813888) : Ev (fun k => laws_heldAttrS.f k (mAttr a n) a) (a + 4 * (n : Int)) := by
 refine Ev.congr (fun k => ?_) (heldAttr_l0 a n hn ha n 0 (by omega) (by omega))
 simp [laws_heldAttrS.f]
theorem rdset_Ent (x : List S92) (i : Nat) (h : i < x.length) (v : S92) : rd_T92 (x.set i v) (i : Int) = v := by simp [rd_T92, List.getD_eq_getElem?_getD, h]
theorem mkEnt_step (x : List S92) (a : Int) (i : Nat) (h : i < x.length) (hx : x.length ≤ 4194304) (h0 : 0 ≤ a) (h1 : a ≤ 1099511627776) (k : Nat) : laws_markEntS.l0 (k + 1) x a (i : Int) = (laws_markText.f k (a)).bind fun t0 => (laws_markText.f k (a + 1)).bind fun t1 => laws_markEntS.l0 k (x.set i ⟨t0, t1⟩) (a + 1 + 1) ((i : Int) + 1) := by
 have w1 : wrap64 (a + 1) = a + 1 := w64 (by omega) (by omega)
 have w2 : wrap64 (a + 1 + 1) = a + 1 + 1 := w64 (by omega) (by omega)
 have wi : wrap64 ((i : Int) + 1) = (i : Int) + 1 := w64 (by omega) (by omega)
 have hi0 : (0 : Int) ≤ (i : Int) := by omega
 simp only [laws_markEntS.l0]
 rw [if_pos (by omega)]
 simp only [Option.bind_some, w1, w2, wi, if_pos hi0, Int.toNat_natCast, List.set_set, rdset_Ent x i h]
theorem mkEnt_all (l : List S92) (hl : l.length ≤ 4194304) (a : Int) (h0 : 0 ≤ a) (h1 : a ≤ 549755813888) : ∃ y, Ev (fun k => laws_markEntS.f k l a) (a + 2 * (l.length : Int), y) := by
 obtain ⟨y, hy, h⟩ := marks_from (n := l.length) (c := 2) (by omega) (G := fun k x a i => laws_markEntS.l0 k x a i)
  (fun x a i hx hi h0 h1 => ⟨x.set i ⟨mT (a), mT (a + 1)⟩, by simp [hx], fun q hq => Ev.step (mkEnt_step x a i (by omega) (by omega) h0 h1) (Ev.bind (mT_ev _ (by omega)) (Ev.bind (mT_ev _ (by omega)) (by rw [show a + 1 + 1 = a + 2 from by omega]; exact hq)))⟩)
  (fun k x a hx => by simp only [laws_markEntS.l0]; rw [if_neg (by omega)]) l.length 0 l a rfl (by omega) (by omega) h0 (by omega)
 exact ⟨y, Ev.congr (fun k => by simp [laws_markEntS.f]) h⟩
theorem rdset_Def (x : List S85) (i : Nat) (h : i < x.length) (v : S85) : rd_T85 (x.set i v) (i : Int) = v := by simp [rd_T85, List.getD_eq_getElem?_getD, h]
theorem mkDef_step (x : List S85) (a : Int) (i : Nat) (h : i < x.length) (hx : x.length ≤ 4194304) (h0 : 0 ≤ a) (h1 : a ≤ 1099511627776) (k : Nat) : laws_markDefS.l0 (k + 1) x a (i : Int) = (laws_markText.f k (a)).bind fun t0 => (laws_markText.f k (a + 1)).bind fun t1 => (laws_markText.f k (a + 1 + 1 + 1 + 1)).bind fun t4 => laws_markDefS.l0 k (x.set i ⟨t0, t1, (Int.tmod (a + 1 + 1) 3 == 0), (Int.tmod (a + 1 + 1 + 1) 3 == 0), t4⟩) (a + 1 + 1 + 1 + 1 + 1) ((i : Int) + 1) := by
 have w1 : wrap64 (a + 1) = a + 1 := w64 (by omega) (by omega)
 have w2 : wrap64 (a + 1 + 1) = a + 1 + 1 := w64 (by omega) (by omega)
 have w3 : wrap64 (a + 1 + 1 + 1) = a + 1 + 1 + 1 := w64 (by omega) (by omega)
 have w4 : wrap64 (a + 1 + 1 + 1 + 1) = a + 1 + 1 + 1 + 1 := w64 (by omega) (by omega)
 have w5 : wrap64 (a + 1 + 1 + 1 + 1 + 1) = a + 1 + 1 + 1 + 1 + 1 := w64 (by omega) (by omega)
 have wi : wrap64 ((i : Int) + 1) = (i : Int) + 1 := w64 (by omega) (by omega)
 have hi0 : (0 : Int) ≤ (i : Int) := by omega
 simp only [laws_markDefS.l0]
 rw [if_pos (by omega)]
 simp only [Option.bind_some, w1, w2, w3, w4, w5, wi, if_pos hi0, Int.toNat_natCast, List.set_set, rdset_Def x i h]
theorem mkDef_all (l : List S85) (hl : l.length ≤ 4194304) (a : Int) (h0 : 0 ≤ a) (h1 : a ≤ 549755813888) : ∃ y, Ev (fun k => laws_markDefS.f k l a) (a + 5 * (l.length : Int), y) := by
 obtain ⟨y, hy, h⟩ := marks_from (n := l.length) (c := 5) (by omega) (G := fun k x a i => laws_markDefS.l0 k x a i)
  (fun x a i hx hi h0 h1 => ⟨x.set i ⟨mT (a), mT (a + 1), (Int.tmod (a + 1 + 1) 3 == 0), (Int.tmod (a + 1 + 1 + 1) 3 == 0), mT (a + 1 + 1 + 1 + 1)⟩, by simp [hx], fun q hq => Ev.step (mkDef_step x a i (by omega) (by omega) h0 h1) (Ev.bind (mT_ev _ (by omega)) (Ev.bind (mT_ev _ (by omega)) (Ev.bind (mT_ev _ (by omega)) (by rw [show a + 1 + 1 + 1 + 1 + 1 = a + 5 from by omega]; exact hq))))⟩)
  (fun k x a hx => by simp only [laws_markDefS.l0]; rw [if_neg (by omega)]) l.length 0 l a rfl (by omega) (by omega) h0 (by omega)
 exact ⟨y, Ev.congr (fun k => by simp [laws_markDefS.f]) h⟩
theorem markNode_go (l : List S38) (hl : ∀ y ∈ l, ∀ a, 0 ≤ a → a + 8 * (1 + vNode y) ≤ 549755813888 → ∃ r z, Ev (fun k => laws_markNodeS.node (laws_markNodeS.f k) k y a) (r, z) ∧ a ≤ r ∧ r ≤ a + 8 * (1 + vNode y)) : ∀ a, 0 ≤ a → a + 8 * ((l.length : Int) + sumOf vNode l) ≤ 549755813888 →
  ∃ r z, Ev (fun k => laws_markNodeS.go (laws_markNodeS.f k) k l a) (r, z) ∧ a ≤ r ∧ r ≤ a + 8 * ((l.length : Int) + sumOf vNode l) := by
 induction l with
 | nil =>
  intro a h0 h1
  exact ⟨a, [], Ev.congr (fun k => by simp only [laws_markNodeS.go]) (Ev.now _), Int.le_refl _, by simp [sumOf_nil]⟩
 | cons x l ih =>
  intro a h0 h1
  rw [sumOf_cons, List.length_cons] at h1 ⊢
  have hv := vNode_n x
  have hs := sumOf_nonneg vNode_n l
  obtain ⟨r, z, hr, b1, b2⟩ := hl x (List.mem_cons_self ..) a h0 (by omega)
  obtain ⟨q, y, hq, b3, b4⟩ := ih (fun y hy => hl y (List.mem_cons_of_mem _ hy)) r (by omega) (by omega)
  refine ⟨q, z :: y, Ev.congr (fun k => by simp only [laws_markNodeS.go]; rfl) (Ev.bind hr ?_), by omega, by omega⟩
  refine Ev.bind hq ?_
  exact Ev.now _
theorem markNodeS_of (l : List S38) (h62 : l.length ≤ 1048576) (hl : ∀ y ∈ l, ∀ a, 0 ≤ a → a + 8 * (1 + vNode y) ≤ 549755813888 → ∃ r z, Ev (fun k => laws_markNodeS.node (laws_markNodeS.f k) k y a) (r, z) ∧ a ≤ r ∧ r ≤ a + 8 * (1 + vNode y)) (a : Int) (h0 : 0 ≤ a) (h1 : a + 8 * ((l.length : Int) + sumOf vNode l) ≤ 549755813888) :
  ∃ r z, Ev (fun k => laws_markNodeS.f k l a) (r, z) ∧ a ≤ r ∧ r ≤ a + 8 * ((l.length : Int) + sumOf vNode l) := by
 obtain ⟨r, z, hr, b⟩ := markNode_go l hl a h0 h1
 exact ⟨r, z, Ev.step (fun k => by simp only [laws_markNodeS.f]; rw [if_pos (by omega)]) hr, b⟩
theorem markNode_node (x : S38) : vNode x ≤ 1048576 → ∀ a, 0 ≤ a → a + 8 * (1 + vNode x) ≤ 549755813888 → ∃ r z, Ev (fun k => laws_markNodeS.node (laws_markNodeS.f k) k x a) (r, z) ∧ a ≤ r ∧ r ≤ a + 8 * (1 + vNode x) := by
 induction x using indI with
 | h x ih =>
  intro hv a h0 h1
  obtain ⟨b4, b5, b6, bs, bk⟩ := vNode_bounds x
  have e := vNode_eq x
  have hs := sumOf_nonneg vNode_n x.f6
  have w1 : wrap64 (a + 1) = a + 1 := w64 (by omega) (by omega)
  have w2 : wrap64 (a + 1 + 1) = a + 1 + 1 := w64 (by omega) (by omega)
  have w3 : wrap64 (a + 1 + 1 + 1) = a + 1 + 1 + 1 := w64 (by omega) (by omega)
  have w4 : wrap64 (a + 1 + 1 + 1 + 1) = a + 1 + 1 + 1 + 1 := w64 (by omega) (by omega)
  have hd := markDecl_f (a + 1 + 1 + 1 + 1) x.f4 (by omega) (by omega)
  have ht := markAttr_f (a + 1 + 1 + 1 + 1 + 2 * (x.f4.length : Int)) x.f5 (by omega) (by omega)
  obtain ⟨r, z, hr, c1, c2⟩ := markNodeS_of x.f6 (by omega) (fun y hy => ih y hy (by have := bk y hy; omega)) (a + 1 + 1 + 1 + 1 + 2 * (x.f4.length : Int) + 4 * (x.f5.length : Int)) (by omega) (by omega)
  have w5 : wrap64 (r + 1) = r + 1 := w64 (by omega) (by omega)
  refine ⟨r + 1, ⟨a, mT (a + 1), mT (a + 1 + 1), mT (a + 1 + 1 + 1), mDecl (a + 1 + 1 + 1 + 1) x.f4.length, mAttr (a + 1 + 1 + 1 + 1 + 2 * (x.f4.length : Int)) x.f5.length, z, mT r⟩, ?_, by omega, by omega⟩
  refine Ev.congr (fun k => by simp only [laws_markNodeS.node, w1, w2, w3, w4]; rfl) (Ev.bind (mT_ev (a + 1) (by omega)) ?_)
  refine Ev.bind (mT_ev (a + 1 + 1) (by omega)) ?_
  refine Ev.bind (mT_ev (a + 1 + 1 + 1) (by omega)) ?_
  refine Ev.bind hd ?_
  refine Ev.bind ht ?_
  refine Ev.bind hr ?_
  refine Ev.bind (mT_ev r (by omega)) ?_
  exact Ev.congr (fun k => by rw [w5]) (Ev.now _)
theorem markNode_ev (x : S38) (hv : vNode x ≤ 1048576) (a : Int) (h0 : 0 ≤ a) (h1 : a ≤ 274877906944) : ∃ r z, Ev (fun k => laws_markNode.g k x a) (r, z) ∧ a ≤ r ∧ r ≤ a + 8 * (1 + vNode x) := by
 obtain ⟨b4, b5, b6, bs, bk⟩ := vNode_bounds x
 have e := vNode_eq x
 have hs := sumOf_nonneg vNode_n x.f6
 obtain ⟨r, z, hr, c1, c2⟩ := markNodeS_of x.f6 (by omega) (fun y hy => markNode_node y (by have := bk y hy; omega)) (a + 2 * (x.f4.length : Int) + 4 * (x.f5.length : Int)) (by omega) (by omega)
 refine ⟨r, ⟨x.f0, x.f1, x.f2, x.f3, mDecl a x.f4.length, mAttr (a + 2 * (x.f4.length : Int)) x.f5.length, z, x.f7⟩, ?_, by omega, by omega⟩
 refine Ev.congr (fun k => by simp only [laws_markNode.g]; rfl) (Ev.bind (markDecl_f a x.f4 (by omega) (by omega)) ?_)
 refine Ev.bind (markAttr_f _ x.f5 (by omega) (by omega)) ?_
 refine Ev.bind hr ?_
 exact Ev.now _
theorem markNode_f (x : S38) (hv : vNode x ≤ 1048576) (a : Int) (h0 : 0 ≤ a) (h1 : a ≤ 274877906944) : ∃ r, Ev (fun k => laws_markNode.f k x.f0 x.f1 x.f2 x.f3 x.f4 x.f5 x.f6 x.f7 a) r ∧ a ≤ r ∧ r ≤ a + 8 * (1 + vNode x) := by
 obtain ⟨r, z, ⟨K, h⟩, b⟩ := markNode_ev x hv a h0 h1
 exact ⟨r, ⟨K, fun k hk => by
  have e : laws_markNode.g k x a = some (r, z) := h k hk
  cases x
  simp only [laws_markNode.f]
  rw [e]
  rfl⟩, b⟩
theorem DefOf_both (l : List S85) (a b : ByteArray) (hl : l.length ≤ 1048576) (d : Nat) : ∀ i : Nat, i ≤ l.length → l.length - i = d → (∀ j (h : j < l.length), j < i → impl_DefOf.p a b l[j] = false) →
  ∃ r, Ev (fun k => spec_DefOf.l0 k l a b (i : Int)) r ∧ impl_DefOf.f l a b = some r := by
 induction d with
 | zero =>
  intro i hi hd hj
  have e : i = l.length := by omega
  subst e
  have hno : ¬ l.findIdx (impl_DefOf.p a b) < l.length := fun hlt => by
   have h1 := List.findIdx_getElem (w := hlt)
   rw [hj _ hlt hlt] at h1
   cases h1
  refine ⟨_, Ev.step (fun k => ?_) (Ev.now _), by unfold impl_DefOf.f; rw [if_neg hno]⟩
  simp only [spec_DefOf.l0]
  rw [if_neg (by omega)]
 | succ d ih =>
  intro i hi hd hj
  have hlt : i < l.length := by omega
  have hrd := rd_IDef l i hlt
  cases hp : impl_DefOf.p a b l[i] with
  | true =>
   have hf : l.findIdx (impl_DefOf.p a b) = i := (List.findIdx_eq hlt).2 ⟨hp, fun j hji => hj j (by omega) hji⟩
   have hp2 : l[i].f0.toList = a.toList ∧ l[i].f1.toList = b.toList := by
    unfold impl_DefOf.p at hp
    simpa using hp
   refine ⟨_, Ev.step (fun k => ?_) (Ev.now _), by unfold impl_DefOf.f; rw [hf, if_pos hlt, hrd]⟩
   simp only [spec_DefOf.l0]
   rw [if_pos (by omega), if_pos (by omega), hrd, if_pos hp2.1, if_pos hp2.2]
  | false =>
   obtain ⟨r, hr, hf⟩ := ih (i + 1) (by omega) (by omega) (fun j h hji => by
    by_cases e : j = i
    ·subst e; exact hp
    ·exact hj j h (by omega))
   refine ⟨r, Ev.step (fun k => ?_) hr, hf⟩
   have hp2 : l[i].f0.toList = a.toList → ¬ l[i].f1.toList = b.toList := fun h1 h2 => by
    unfold impl_DefOf.p at hp
    simp [h1, h2] at hp
   simp only [spec_DefOf.l0]
   rw [if_pos (by omega), if_pos (by omega), hrd, w64 (by omega) (by omega)]
   by_cases c1 : l[i].f0.toList = a.toList
   ·rw [if_pos c1, if_neg (hp2 c1)]
    rfl
   ·rw [if_neg c1]
    rfl
theorem szHead_f (nm : ByteArray) (en : List S81) (df : List S84) (hn : nm.size ≤ maxLen) (he : en.length ≤ maxLen ∧ ∀ x ∈ en, WF81 x) (hd : df.length ≤ maxLen ∧ ∀ x ∈ df, WF84 x) (left : Int) (h0 : 0 ≤ left) (h1 : left ≤ 1048576) :
  ∃ r, Ev (fun k => laws_szHead.f k nm en df left) r ∧ (0 ≤ r → (nm.size : Int) + (en.length : Int) + (df.length : Int) ≤ 1048576) := by
 unfold maxLen at hn
 have n1 := sumOf_nonneg wEnt_nonneg en
 have n2 := sumOf_nonneg wDef_nonneg df
 have e1 : wrap64 (left - (nm.size : Int)) = left - (nm.size : Int) := w64 (by omega) (by omega)
 by_cases c1 : left - (nm.size : Int) < 0
 ·exact ⟨-1, Ev.congr (fun k => by simp only [laws_szHead.f]; rw [e1, if_pos c1]) (Ev.now _), fun h => by omega⟩
 obtain ⟨r, hr, hrw⟩ := szEntS_f en he (left - (nm.size : Int)) (by omega) (by omega)
 by_cases c2 : r < 0
 ·exact ⟨-1, Ev.congr (fun k => by simp only [laws_szHead.f]; rw [e1, if_neg c1]) (Ev.bind hr (Ev.congr (fun k => by rw [if_pos c2]) (Ev.now _))), fun h => by omega⟩
 obtain ⟨q, hq, hqw⟩ := szDefS_f df hd r (by omega) (by have := hrw (by omega); omega)
 by_cases c3 : q < 0
 ·exact ⟨-1, Ev.congr (fun k => by simp only [laws_szHead.f]; rw [e1, if_neg c1]) (Ev.bind hr (Ev.congr (fun k => by rw [if_neg c2]) (Ev.bind hq (Ev.congr (fun k => by rw [if_pos c3]) (Ev.now _))))), fun h => by omega⟩
 exact ⟨q, Ev.congr (fun k => by simp only [laws_szHead.f]; rw [e1, if_neg c1]) (Ev.bind hr (Ev.congr (fun k => by rw [if_neg c2]) (Ev.bind hq (Ev.congr (fun k => by rw [if_neg c3]) (Ev.now _))))), fun h => by have := hrw (by omega); have := hqw h; omega⟩
theorem toHead_f (nm : ByteArray) (en : List S81) (df : List S84) (he : en.length ≤ 1048576) (hd : df.length ≤ 1048576) : Ev (fun k => laws_toHead.f k nm en df) (nm, en.map convEnt, df.map convDef) := by
 refine Ev.congr (fun k => by simp only [laws_toHead.f]; rfl) (Ev.bind (toEntS_f en he) ?_)
 refine Ev.bind (toDefS_f df hd) ?_
 exact Ev.now _
theorem eqHead_f (nm : ByteArray) (en : List S92) (df : List S85) (he : en.length ≤ 1048576) (hd : df.length ≤ 1048576) : Ev (fun k => laws_eqHead.f k nm en df nm en df) true :=
 Ev.congr (fun k => by simp only [laws_eqHead.f]; rw [if_pos trivial]) (Ev.bind (eqEntS_f en he) (Ev.congr (fun k => by rw [if_pos rfl]) (Ev.bind (eqDefS_f df hd) (Ev.congr (fun k => by rw [if_pos rfl]) (Ev.now _)))))
theorem markHead_f (nm : ByteArray) (en : List S92) (df : List S85) (he : en.length ≤ 1048576) (hd : df.length ≤ 1048576) (a : Int) (h0 : 0 ≤ a) (h1 : a ≤ 274877906944) : ∃ y, Ev (fun k => laws_markHead.f k nm en df a) (a + 2 * (en.length : Int) + 5 * (df.length : Int), y) := by
 obtain ⟨y, hy⟩ := mkEnt_all en (by omega) a h0 (by omega)
 obtain ⟨z, hz⟩ := mkDef_all df (by omega) (a + 2 * (en.length : Int)) (by omega) (by omega)
 refine ⟨(y, z), ?_⟩
 refine Ev.congr (fun k => by simp only [laws_markHead.f]; rfl) (Ev.bind hy ?_)
 refine Ev.bind hz ?_
 exact Ev.now _
/-- The Attr that is put behind. -/
def asIs (a : S64) : S64 := ⟨a.f0, a.f1, a.f2, a.f3⟩
theorem ids_attrs (y : S38) (nm : ByteArray) (en : List S92) (df : List S85) (hd : df.length ≤ 1048576) (h1 : y.f1.size ≤ 1048576) (h2 : y.f2.size ≤ 1048576) (h5 : y.f5.length ≤ 1048576)
  (ha : ∀ a ∈ y.f5, a.f0.size ≤ 1048576 ∧ a.f1.size ≤ 1048576) (d : Nat) : ∀ (i : Nat) (acc : List S64), i ≤ y.f5.length → y.f5.length - i = d → acc.length ≤ i →
  ∃ sel : List S64, sel.length ≤ y.f5.length ∧ (∀ r, Ev (fun k => spec_l8Ids.l1 k sel 0 y.f0 y.f1 y.f2 y.f3 y.f4 y.f5 y.f6 y.f7 nm en df) r → Ev (fun k => spec_l8Ids.l0 k acc (i : Int) y.f0 y.f1 y.f2 y.f3 y.f4 y.f5 y.f6 y.f7 nm en df) r) ∧
   Ev (fun k => impl_idsOf.l0 k acc y.f5 (y.f5.length : Int) (i : Int) y.f0 y.f1 y.f2 y.f3 y.f4 y.f5 y.f6 y.f7 nm en df) sel := by
 induction d with
 | zero =>
  intro i acc hi hd2 hac
  have e : i = y.f5.length := by omega
  refine ⟨acc, by omega, fun r hr => Ev.step (fun k => ?_) hr, Ev.step (fun k => ?_) (Ev.now acc)⟩
  ·simp only [spec_l8Ids.l0]
   rw [if_neg (by omega)]
  ·simp only [impl_idsOf.l0]
   rw [if_neg (by omega)]
 | succ d ih =>
  intro i acc hi hd2 hac
  have hlt : i < y.f5.length := by omega
  have c0 : (0 : Int) ≤ (i : Int) := by omega
  have c1 : (i : Int) < (y.f5.length : Int) := by omega
  have ca : acc.length < 2199023255552 := by omega
  have i1 : i + 1 ≤ y.f5.length := by omega
  have i2 : y.f5.length - (i + 1) = d := by omega
  have ia1 : acc.length + 1 ≤ i + 1 := by omega
  have ia2 : acc.length ≤ i + 1 := by omega
  have hm := ha _ (List.getElem_mem hlt)
  have hrd := rd_IAttr y.f5 i hlt
  have wi : wrap64 ((i : Int) + 1) = ((i + 1 : Nat) : Int) := by rw [w64 (by omega) (by omega)]; omega
  obtain ⟨j, js, ji⟩ := join_same y.f1 y.f2 h1 h2
  obtain ⟨j2, js2, ji2⟩ := join_same y.f5[i].f0 y.f5[i].f1 hm.1 hm.2
  obtain ⟨q, qs, qf⟩ := DefOf_both df j j2 hd df.length 0 (by omega) (by omega) (fun j h hj => by omega)
  have qs' : Ev (fun k => spec_DefOf.f k df j j2) q := Ev.congr (fun k => by simp [spec_DefOf.f]) qs
  have hsp : ∀ k, spec_l8Ids.l0 (k + 1) acc (i : Int) y.f0 y.f1 y.f2 y.f3 y.f4 y.f5 y.f6 y.f7 nm en df = (spec_JoinName.f k y.f1 y.f2).bind fun t => (spec_JoinName.f k y.f5[i].f0 y.f5[i].f1).bind fun t2 => (spec_DefOf.f k df t t2).bind fun b => spec_l8Ids.l0 k (if b.2.2.2.2.2 = true ∧ b.2.2.1 = true ∧ y.f0 = 1 then acc ++ [asIs y.f5[i]] else acc) ((i + 1 : Nat) : Int) y.f0 y.f1 y.f2 y.f3 y.f4 y.f5 y.f6 y.f7 nm en df := fun k => by
   simp only [spec_l8Ids.l0]
   rw [if_pos c1, if_pos c0, hrd, wi]
   refine congrArg (Option.bind _) (funext fun t => congrArg (Option.bind _) (funext fun t2 => congrArg (Option.bind _) (funext fun b => ?_)))
   by_cases g1 : b.2.2.2.2.2 = true
   ·by_cases g2 : b.2.2.1 = true
    ·by_cases g3 : y.f0 = 1
     ·rw [if_pos g1, if_pos g2, if_pos g3, if_pos ca, if_pos ⟨g1, g2, g3⟩]; rfl
     ·rw [if_pos g1, if_pos g2, if_neg g3, if_neg (fun h => g3 h.2.2)]
    ·rw [if_pos g1, if_neg g2, if_neg (fun h => g2 h.2.1)]
   ·rw [if_neg g1, if_neg (fun h => g1 h.1)]
  have him : ∀ k, impl_idsOf.l0 (k + 1) acc y.f5 (y.f5.length : Int) (i : Int) y.f0 y.f1 y.f2 y.f3 y.f4 y.f5 y.f6 y.f7 nm en df = (impl_JoinName.f k y.f1 y.f2).bind fun t => (impl_JoinName.f k y.f5[i].f0 y.f5[i].f1).bind fun t2 => (impl_DefOf.f df t t2).bind fun b => impl_idsOf.l0 k (if b.2.2.2.2.2 = true ∧ b.2.2.1 = true ∧ y.f0 = 1 then acc ++ [asIs y.f5[i]] else acc) y.f5 (y.f5.length : Int) ((i + 1 : Nat) : Int) y.f0 y.f1 y.f2 y.f3 y.f4 y.f5 y.f6 y.f7 nm en df := fun k => by
   simp only [impl_idsOf.l0]
   rw [if_pos c1, if_pos c0, if_pos c1, hrd, wi]
   refine congrArg (Option.bind _) (funext fun t => congrArg (Option.bind _) (funext fun t2 => congrArg (Option.bind _) (funext fun b => ?_)))
   by_cases g1 : b.2.2.2.2.2 = true
   ·by_cases g2 : b.2.2.1 = true
    ·by_cases g3 : y.f0 = 1
     ·rw [if_pos g1, if_pos g2, if_pos g3, if_pos ca, if_pos ⟨g1, g2, g3⟩]; rfl
     ·rw [if_pos g1, if_pos g2, if_neg g3, if_neg (fun h => g3 h.2.2)]
    ·rw [if_pos g1, if_neg g2, if_neg (fun h => g2 h.2.1)]
   ·rw [if_neg g1, if_neg (fun h => g1 h.1)]
  obtain ⟨sel, s1, s2, s3⟩ := ih (i + 1) (if q.2.2.2.2.2 = true ∧ q.2.2.1 = true ∧ y.f0 = 1 then acc ++ [asIs y.f5[i]] else acc) i1 i2 (by
   split
   ·rw [List.length_append, List.length_singleton]; exact ia1
   ·exact ia2)
  refine ⟨sel, s1, fun r hr => Ev.step hsp (Ev.bind js (Ev.bind js2 (Ev.bind qs' (s2 r hr)))), Ev.step him (Ev.bind ji (Ev.bind ji2 ?_))⟩
  simp only [qf, Option.bind_some]
  exact s3
theorem ids_kids (l : List S38) (f0 : Int) (f1 f2 f3 : ByteArray) (f4 : List S89) (f5 : List S64) (f7 nm : ByteArray) (en : List S92) (df : List S85) (hl : l.length ≤ 1048576) (m : S38 → Int) (hm : ∀ x, 0 ≤ m x)
  (hk : ∀ x ∈ l, ∃ r, Ev (fun k => spec_l8Ids.f k x.f0 x.f1 x.f2 x.f3 x.f4 x.f5 x.f6 x.f7 nm en df) r ∧ Ev (fun k => impl_IdsOf.f k x.f0 x.f1 x.f2 x.f3 x.f4 x.f5 x.f6 x.f7 nm en df) r ∧ (r.length : Int) ≤ m x) (d : Nat) :
  ∀ (i : Nat) (acc : List S64), i ≤ l.length → l.length - i = d → (acc.length : Int) + sumOf m (l.drop i) ≤ 1048576 →
  ∃ r, Ev (fun k => spec_l8Ids.l1 k acc (i : Int) f0 f1 f2 f3 f4 f5 l f7 nm en df) r ∧ Ev (fun k => impl_IdsOf.l0 k acc l (l.length : Int) (i : Int) nm en df) r ∧ (r.length : Int) ≤ (acc.length : Int) + sumOf m (l.drop i) := by
 induction d with
 | zero =>
  intro i acc hi hd hb
  have e : i = l.length := by omega
  subst e
  rw [List.drop_length, sumOf_nil]
  refine ⟨acc, Ev.step (fun k => ?_) (Ev.now acc), Ev.step (fun k => ?_) (Ev.now acc), by omega⟩
  ·simp only [spec_l8Ids.l1]
   rw [if_neg (by omega)]
  ·simp only [impl_IdsOf.l0]
   rw [if_neg (by omega)]
 | succ d ih =>
  intro i acc hi hd hb
  have hlt : i < l.length := by omega
  rw [List.drop_eq_getElem_cons hlt, sumOf_cons] at hb ⊢
  have hs := sumOf_nonneg hm (l.drop (i + 1))
  have hrd := rd_INode l i hlt
  have wi : wrap64 ((i : Int) + 1) = ((i + 1 : Nat) : Int) := by rw [w64 (by omega) (by omega)]; omega
  obtain ⟨t, t1, t2, t3⟩ := hk _ (List.getElem_mem hlt)
  obtain ⟨r, r1, r2, r3⟩ := ih (i + 1) (acc ++ t) (by omega) (by omega) (by rw [List.length_append]; omega)
  have hlen : acc.length + t.length < 2199023255552 := by omega
  refine ⟨r, Ev.step (fun k => by simp only [spec_l8Ids.l1]; rw [if_pos (by omega), if_pos (by omega), hrd, wi]) (Ev.bind t1 (Ev.congr (fun k => by rw [if_pos hlen]) r1)), Ev.step (fun k => by simp only [impl_IdsOf.l0]; rw [if_pos (by omega), if_pos (by omega), if_pos (by omega), hrd, wi]) (Ev.bind t2 (Ev.congr (fun k => by rw [if_pos hlen]) r2)), by rw [List.length_append] at r3; omega⟩
theorem ids_same (nm : ByteArray) (en : List S92) (df : List S85) (hd : df.length ≤ 1048576) (x : S26) : wNode x ≤ 1048576 →
  ∃ r, Ev (fun k => spec_l8Ids.f k (cNo x).f0 (cNo x).f1 (cNo x).f2 (cNo x).f3 (cNo x).f4 (cNo x).f5 (cNo x).f6 (cNo x).f7 nm en df) r ∧ Ev (fun k => impl_IdsOf.f k (cNo x).f0 (cNo x).f1 (cNo x).f2 (cNo x).f3 (cNo x).f4 (cNo x).f5 (cNo x).f6 (cNo x).f7 nm en df) r ∧ (r.length : Int) ≤ vNode (cNo x) := by
 induction x using indL with
 | h x ih =>
  intro hw
  obtain ⟨b4, b5, b6, bs, bk⟩ := wNode_bounds x
  have hv := vNode_conv x
  have e := wNode_eq x
  have nd := sumOf_nonneg wDecl_n x.f4
  have na := sumOf_nonneg wAttr_n x.f5
  have nk := sumOf_nonneg wNode_n x.f6
  have ec := vNode_eq (cNo x)
  have e1 : (cNo x).f1 = x.f1 := by rw [convNode_eq]
  have e2 : (cNo x).f2 = x.f2 := by rw [convNode_eq]
  have e5 : (cNo x).f5 = x.f5.map cAt := by rw [convNode_eq]
  have e6 : (cNo x).f6 = x.f6.map cNo := by rw [convNode_eq]
  have hn5 : (cNo x).f5.length = x.f5.length := by rw [e5, List.length_map]
  have hn6 : (cNo x).f6.length = x.f6.length := by rw [e6, List.length_map]
  obtain ⟨sel, s1, s2, s3⟩ := ids_attrs (cNo x) nm en df hd (by rw [e1]; omega) (by rw [e2]; omega) (by omega) (fun a h => by
   rw [e5] at h
   obtain ⟨b, hb, rfl⟩ := List.mem_map.1 h
   have := sumOf_mem wAttr_n hb
   have h2 : wAttr b = (b.f0.size : Int) + (b.f1.size : Int) + (b.f2.size : Int) + (b.f3.size : Int) := rfl
   show b.f0.size ≤ 1048576 ∧ b.f1.size ≤ 1048576
   omega) (cNo x).f5.length 0 [] (by omega) (by omega) (by simp)
  obtain ⟨r, r1, r2, r3⟩ := ids_kids (cNo x).f6 (cNo x).f0 (cNo x).f1 (cNo x).f2 (cNo x).f3 (cNo x).f4 (cNo x).f5 (cNo x).f7 nm en df (by omega) vNode vNode_n (fun y h => by
   rw [e6] at h
   obtain ⟨b, hb, rfl⟩ := List.mem_map.1 h
   exact ih b hb (by have := bk b hb; omega)) (cNo x).f6.length 0 sel (by omega) (by omega) (by rw [List.drop_zero]; omega)
  rw [List.drop_zero] at r3
  refine ⟨r, Ev.step (fun k => by simp only [spec_l8Ids.f]; rfl) (s2 r r1), Ev.step (fun k => by simp only [impl_IdsOf.f]; rfl) (Ev.bind (Ev.congr (fun k => by simp only [impl_idsOf.f]; rfl) s3) r2), by omega⟩
theorem FnExactIdsOf : laws_FnExactIdsOf.Pure := by
 intro x y hw hy
 obtain ⟨hn, he, hd⟩ := hy
 obtain ⟨r, hr, hrw⟩ := szNode_f x hw 1048576 (by omega) (by omega)
 refine Ev.rounds (r := true) ?_
 refine Ev.congr (fun k => by simp only [laws_FnExactIdsOf.f]; rfl) (Ev.bind hr ?_)
 by_cases hn1 : r < 0
 ·exact Ev.congr (fun k => by rw [if_pos hn1]) (Ev.now _)
 have hwn0 := wNode_n x
 obtain ⟨q, hq, hqw⟩ := szHead_f y.f0 y.f1 y.f2 hn he hd r (by omega) (by have := hrw (by omega); omega)
 refine Ev.congr (fun k => by rw [if_neg hn1]) (Ev.bind hq ?_)
 by_cases hn2 : q < 0
 ·exact Ev.congr (fun k => by rw [if_pos hn2]) (Ev.now _)
 have hwn : wNode x ≤ 1048576 := by have := hrw (by omega); omega
 have hv : vNode (cNo x) ≤ 1048576 := by have := vNode_conv x; omega
 have hb := hqw (by omega)
 have hel : (y.f1.map convEnt).length ≤ 1048576 := by rw [List.length_map]; omega
 have hdl : (y.f2.map convDef).length ≤ 1048576 := by rw [List.length_map]; omega
 have ht := toNode_f x hwn
 have hh := toHead_f y.f0 y.f1 y.f2 (by omega) (by omega)
 obtain ⟨c, hs, hi, hc⟩ := ids_same y.f0 (y.f1.map convEnt) (y.f2.map convDef) hdl x hwn
 have hev := eqNode_f (cNo x) hv
 have hev2 := eqHead_f y.f0 (y.f1.map convEnt) (y.f2.map convDef) hel hdl
 obtain ⟨m, hm, hm0, hm1⟩ := markNode_f (cNo x) hv 1 (by omega) (by omega)
 obtain ⟨z, hz⟩ := markHead_f y.f0 (y.f1.map convEnt) (y.f2.map convDef) hel hdl m (by omega) (by omega)
 have hcl : c.length ≤ 1048576 := by omega
 have hq1 := eqAttrS_f c hcl
 have hmk := markAttr_f 1 c (by omega) (by omega)
 have hhd := heldAttr_f 1 c.length (by omega) (by omega)
 rw [convNode_eq] at hs hi hev hm
 have hsp : Ev (fun k => spec_IdsOf.f k x.f0 x.f1 x.f2 x.f3 (x.f4.map cDe) (x.f5.map cAt) (x.f6.map cNo) x.f7 y.f0 (y.f1.map convEnt) (y.f2.map convDef)) c := Ev.congr (fun k => by simp only [spec_IdsOf.f]) (Ev.bind hs (Ev.now _))
 refine Ev.congr (fun k => by rw [if_neg hn2]) (Ev.bind ht (Ev.bind hh (Ev.bind hsp (Ev.bind ht (Ev.bind hh (Ev.bind hi (Ev.bind hq1 ?_)))))))
 refine Ev.congr (fun k => by rw [if_pos rfl]) (Ev.bind ht (Ev.bind hev ?_))
 refine Ev.congr (fun k => by rw [if_pos rfl]) (Ev.bind hh (Ev.bind hev2 ?_))
 refine Ev.congr (fun k => by rw [if_pos rfl]) (Ev.bind hm (Ev.bind hz ?_))
 refine Ev.congr (fun k => by rw [if_neg (by show ¬ m + 2 * ((y.f1.map convEnt).length : Int) + 5 * ((y.f2.map convDef).length : Int) < 0; omega)]) (Ev.bind hq1 ?_)
 refine Ev.step (fun k => by simp only [laws_FnExactIdsOf.j0]; rw [if_neg (by simp)]) (Ev.bind hmk (Ev.bind hhd ?_))
 refine Ev.congr (fun k => by rw [if_neg (by omega), if_pos rfl]) (Ev.bind ht (Ev.bind hh (Ev.bind hi (Ev.bind hq1 ?_))))
 refine Ev.congr (fun k => by rw [if_pos rfl]) (Ev.bind hhd ?_)
 exact Ev.congr (fun k => by rw [if_neg (by omega), if_pos rfl]) (Ev.now _)

end FnExactIdsOf_
theorem FnExactIdsOf : laws_FnExactIdsOf.Pure := FnExactIdsOf_.FnExactIdsOf
end Go.Proofs.YtdbinpeglamnnaaDoor.Pure
