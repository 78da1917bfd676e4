/- A number that is drawn has bytes that read as it; what is read at a drawn place is what the bytes there encode; the reference and the program answer alike.
Conditions: none. -/
import Derived.Test.YtehlkajccnmddaaDoorSaidFnSigns
import Derived.Lib.RuneCountTail
import Derived.Lib.DecodeN
import Derived.Lib.MapLaws
import Derived.Shelf.Unicode.DecodeSlow
namespace Go.Proofs.YtehlkajccnmddaaDoor.Pure
open Go.RowKit Go.Proofs.YtehlkajccnmddaaDoor.PG Go.Proofs.YtehlkajccnmddaaDoorW.PrintWords Go.Proofs.YtehlkajccnmddaaDoorW.PrintLast
set_option linter.unusedVariables false
set_option linter.unusedSimpArgs false

namespace FnSigns_
theorem w64 {i : Int} (h0 : -9223372036854775808 ≤ i) (h1 : i ≤ 9223372036854775807) : wrap64 i = i := by unfold wrap64; omega
def inR (n : Int) (p : Int × Int) : Bool := decide (p.1 ≤ n) && decide (n ≤ p.2)
theorem l1In_f (n lo hi : Int) : spec_l1In.f n lo hi = some (inR n (lo, hi)) := by
 unfold spec_l1In.f inR
 by_cases h : n ≥ lo
 ·rw [if_pos h]
  simp [h]
 ·rw [if_neg h]
  have : ¬ lo ≤ n := h
  simp [this]
theorem bt_lt (s : ByteArray) (i : Int) : 0 ≤ bt s i ∧ bt s i < 256 := by
 unfold bt
 split
 ·have := (s[i.toNat]).toNat_lt
  omega
 ·omega
theorem get_bt (s : ByteArray) (i : Nat) : ((s.get! i).toNat : Int) = bt s (i : Int) := by
 unfold bt
 by_cases h : i < s.size
 ·rw [dif_pos (by simpa using h), Go.Proofs.Utf8W.get!_of_lt s i h]
  simp
 ·rw [dif_neg (by simpa using h)]
  rw [← Go.Lib.getD_get!', List.getD_eq_getElem?_getD, List.getElem?_eq_none (by rw [Array.length_toList]; exact Nat.le_of_not_lt h)]
  rfl
set_option maxRecDepth 100000 in
theorem and31 : ∀ x : Fin 256, Go.bits .and .i64 ((x.val : Nat) : Int) 31 = ((x.val % 32 : Nat) : Int) := by decide
set_option maxRecDepth 100000 in
theorem and15 : ∀ x : Fin 256, Go.bits .and .i64 ((x.val : Nat) : Int) 15 = ((x.val % 16 : Nat) : Int) := by decide
set_option maxRecDepth 100000 in
theorem and7 : ∀ x : Fin 256, Go.bits .and .i64 ((x.val : Nat) : Int) 7 = ((x.val % 8 : Nat) : Int) := by decide
theorem band31 (s : ByteArray) (i : Int) : Go.bits .and .i64 (bt s i) 31 = bt s i % 32 := by
 have h := bt_lt s i
 have := and31 ⟨(bt s i).toNat, by omega⟩
 simp only [Int.toNat_of_nonneg h.1] at this
 rw [this]; omega
theorem band15 (s : ByteArray) (i : Int) : Go.bits .and .i64 (bt s i) 15 = bt s i % 16 := by
 have h := bt_lt s i
 have := and15 ⟨(bt s i).toNat, by omega⟩
 simp only [Int.toNat_of_nonneg h.1] at this
 rw [this]; omega
theorem band7 (s : ByteArray) (i : Int) : Go.bits .and .i64 (bt s i) 7 = bt s i % 8 := by
 have h := bt_lt s i
 have := and7 ⟨(bt s i).toNat, by omega⟩
 simp only [Int.toNat_of_nonneg h.1] at this
 rw [this]; omega
/-- The sign at a place. -/
def sgn (s : ByteArray) (i : Int) : Int × Int × Bool :=
 if i < 0 ∨ (s.size : Int) ≤ i then (0, 0, false)
 else if ((Go.Utf8.decode s i.toNat).1 : Int) = 65533 ∧ ((Go.Utf8.decode s i.toNat).2 : Int) ≤ 1 then (0, 0, false)
 else (((Go.Utf8.decode s i.toNat).1 : Int), i + ((Go.Utf8.decode s i.toNat).2 : Int), true)
theorem dec_le (s : ByteArray) (i : Nat) : (Go.Utf8.decode s i).1 ≤ 1114111 ∧ 1 ≤ (Go.Utf8.decode s i).2 ∧ (Go.Utf8.decode s i).2 ≤ 4 := by
 rw [Go.Lib.decode_at]
 have h0 := (s.get! i).toNat_lt
 unfold Go.Lib.decodeN
 repeat' split
 all_goals (refine ⟨?_, ?_, ?_⟩ <;> simp only <;> omega)
theorem implSignAt_f (s : ByteArray) (i : Int) (hs : s.size ≤ 16777216) : impl_SignAt.f s i = some (sgn s i) := by
 unfold impl_SignAt.f impl_in.f sgn
 rw [w64 (by omega) (by omega)]
 by_cases h0 : i ≥ 0
 ·rw [if_pos h0]
  by_cases h1 : i ≤ (s.size : Int) - 1
  ·have hd := dec_le s i.toNat
   rw [if_neg (by omega : ¬ (i < 0 ∨ (s.size : Int) ≤ i))]
   simp only [h1, decide_true, Option.bind_some, if_true]
   rw [if_pos (by omega : (0 : Int) ≤ i), if_pos (by omega : i ≤ (s.size : Int))]
   have hdg : Go.Lib.decodeGo (s.extract i.toNat s.size) = Go.Utf8.decode s i.toNat := by
    unfold Go.Lib.decodeGo
    rw [Go.Lib.tail_size, if_neg (by omega), Go.Lib.tail_decode]
    rfl
   simp only [utf8_DecodeRuneInString.f, hdg, Option.bind_some]
   generalize hD : Go.Utf8.decode s i.toNat = d at hd ⊢
   rw [w64 (by omega) (by omega), w64 (by omega) (by omega)]
   by_cases c0 : (d.1 : Int) = 65533
   ·rw [if_pos c0]
    by_cases c1 : (d.2 : Int) ≤ 1
    ·rw [if_pos c1, if_pos ⟨c0, c1⟩]
    ·rw [if_neg c1, if_neg (fun h => c1 h.2)]
   ·rw [if_neg c0, if_neg (fun h => c0 h.1)]
  ·rw [if_pos (by omega : i < 0 ∨ (s.size : Int) ≤ i)]
   simp [h1]
 ·rw [if_neg h0, if_pos (by omega : i < 0 ∨ (s.size : Int) ≤ i)]
  rfl
theorem l0_step (k : Nat) (s : ByteArray) (i w lo c j : Int) (hs : s.size ≤ 16777216) (h0 : 0 ≤ i + j) (h1 : i + j < s.size) (hj : j ≤ w) (hj0 : 0 ≤ j) (hw : w ≤ 9) (hc0 : 0 ≤ c) (hc1 : c ≤ 100000000) :
  spec_SignAt.l0 (k + 1) s i w lo c j = if bt s (i + j) < 128 ∨ 191 < bt s (i + j) then some (0, 0, false) else spec_SignAt.l0 k s i w lo (c * 64 + bt s (i + j) - 128) (j + 1) := by
 have hb := bt_lt s (i + j)
 rw [spec_SignAt.l0, if_pos hj, w64 (i := i + j) (by omega) (by omega), if_pos h0, if_pos h1, w64 (i := bt s (i + j)) (by omega) (by omega),
  w64 (i := c * 64) (by omega) (by omega), w64 (i := c * 64 + bt s (i + j)) (by omega) (by omega), w64 (i := c * 64 + bt s (i + j) - 128) (by omega) (by omega), w64 (i := j + 1) (by omega) (by omega)]
 by_cases c0 : bt s (i + j) < 128
 ·rw [if_pos c0, if_pos (.inl c0)]
 ·rw [if_neg c0]
  by_cases c1 : bt s (i + j) > 191
  ·rw [if_pos c1, if_pos (.inr c1)]
  ·rw [if_neg c1, if_neg (by omega)]
theorem l0_end (k : Nat) (s : ByteArray) (i w lo c j : Int) (h0 : 0 ≤ i) (h1 : i ≤ 16777216) (hj : w < j) (hw0 : 0 ≤ w) (hw : w ≤ 9) :
  spec_SignAt.l0 (k + 1) s i w lo c j = some (if c < lo ∨ 1114111 < c ∨ (55296 ≤ c ∧ c ≤ 57343) then (0, 0, false) else (c, i + 1 + w, true)) := by
 rw [spec_SignAt.l0, if_neg (by omega)]
 by_cases c0 : c < lo
 ·rw [if_pos c0, if_pos (.inl c0)]
 rw [if_neg c0]
 by_cases c1 : c > 1114111
 ·rw [if_pos c1, if_pos (.inr (.inl c1))]
 rw [if_neg c1, w64 (i := i + 1) (by omega) (by omega), w64 (i := i + 1 + w) (by omega) (by omega)]
 unfold spec_l1In.f
 by_cases c2 : c ≥ 55296
 ·rw [if_pos c2]
  by_cases c3 : c ≤ 57343
  ·rw [decide_eq_true c3, Option.bind_some, if_pos rfl, if_pos (.inr (.inr ⟨c2, c3⟩))]
  ·rw [decide_eq_false c3, Option.bind_some, if_neg (by decide), if_neg (by omega)]
 ·rw [if_neg c2]
  simp only [Option.bind_some]
  rw [if_neg (by decide), if_neg (by omega)]
set_option maxHeartbeats 4000000 in
theorem specSignAt_f (k : Nat) (s : ByteArray) (i : Int) (hs : s.size ≤ 16777216) : spec_SignAt.f (k + 12) s i = some (sgn s i) := by
 unfold spec_SignAt.f sgn
 by_cases g0 : i < 0
 ·rw [if_pos g0, if_pos (.inl g0), spec_SignAt.j0, if_pos rfl]
 rw [if_neg g0]
 by_cases g1 : i ≥ (s.size : Int)
 ·rw [if_pos (.inr g1), spec_SignAt.j0, if_pos (by simpa using g1)]
 rw [if_neg (by omega : ¬ (i < 0 ∨ (s.size : Int) ≤ i)), spec_SignAt.j0, if_neg (by simpa using g1), if_pos (by omega : 0 ≤ i), if_pos (by omega : i < (s.size : Int))]
 have hb0 := bt_lt s i
 have hb1 := bt_lt s (i + 1)
 have hb2 := bt_lt s (i + 2)
 have hb3 := bt_lt s (i + 3)
 have hi : i = ((i.toNat : Nat) : Int) := by omega
 have e0 := get_bt s i.toNat
 have e1 := get_bt s (i.toNat + 1)
 have e2 := get_bt s (i.toNat + 2)
 have e3 := get_bt s (i.toNat + 3)
 rw [show ((i.toNat : Nat) : Int) = i by omega] at e0
 rw [show ((i.toNat + 1 : Nat) : Int) = i + 1 by omega] at e1
 rw [show ((i.toNat + 2 : Nat) : Int) = i + 2 by omega] at e2
 rw [show ((i.toNat + 3 : Nat) : Int) = i + 3 by omega] at e3
 have hd := Go.Lib.decode_at s i.toNat
 generalize Go.Utf8.decode s i.toNat = d at hd ⊢
 obtain ⟨d1, d2⟩ := d
 generalize s.get! i.toNat = B0 at hd e0
 generalize s.get! (i.toNat + 1) = B1 at hd e1
 generalize s.get! (i.toNat + 2) = B2 at hd e2
 generalize s.get! (i.toNat + 3) = B3 at hd e3
 simp only
 rw [w64 (i := bt s i) (by omega) (by omega), w64 (i := i + 1) (by omega) (by omega)]
 by_cases c0 : bt s i < 128
 ·rw [if_pos c0]
  unfold Go.Lib.decodeN at hd
  rw [if_pos (by omega)] at hd
  obtain ⟨rfl, rfl⟩ := Prod.mk.inj hd
  rw [if_neg (by omega), e0]
  rfl
 rw [if_neg c0]
 by_cases c1 : bt s i ≥ 192
 ·rw [if_pos c1]
  by_cases c2 : bt s i < 224
  ·rw [spec_SignAt.j1, if_pos (by simpa using c2), band31, spec_SignAt.j3, w64 (i := (s.size : Int) - 1) (by omega) (by omega), w64 (i := (s.size : Int) - 1 - 1) (by omega) (by omega)]
   have hE : (if i > (s.size : Int) - 1 - 1 then some (0, 0, false) else spec_SignAt.l0 (k + 9) s i 1 128 (bt s i % 32) 1) = (if i > (s.size : Int) - 2 then some (0, 0, false) else (if bt s (i + 1) < 128 ∨ 191 < bt s (i + 1) then some (0, 0, false) else some (if (bt s i % 32) * 64 + bt s (i + 1) - 128 < 128 ∨ 1114111 < (bt s i % 32) * 64 + bt s (i + 1) - 128 ∨ (55296 ≤ (bt s i % 32) * 64 + bt s (i + 1) - 128 ∧ (bt s i % 32) * 64 + bt s (i + 1) - 128 ≤ 57343) then (0, 0, false) else ((bt s i % 32) * 64 + bt s (i + 1) - 128, i + 1 + 1, true)))) := by
    by_cases t0 : i > (s.size : Int) - 1 - 1
    ·rw [if_pos t0, if_pos (by omega)]
    rw [if_neg t0, if_neg (by omega), l0_step (k + 8) s i 1 128 _ 1 hs (by omega) (by omega) (by omega) (by omega) (by omega) (by omega) (by omega)]
    by_cases t1 : bt s (i + 1) < 128 ∨ 191 < bt s (i + 1)
    ·rw [if_pos t1, if_pos t1]
    rw [if_neg t1, if_neg t1, l0_end (k + 7) s i 1 128 _ _ (by omega) (by omega) (by omega) (by omega) (by omega)]
   rw [hE]
   clear hE
   generalize bt s i = b0 at *
   generalize bt s (i + 1) = b1 at *
   generalize bt s (i + 2) = b2 at *
   generalize bt s (i + 3) = b3 at *
   unfold Go.Lib.decodeN at hd
   repeat' split at hd
   all_goals (simp only [Prod.mk.injEq] at hd; obtain ⟨rfl, rfl⟩ := hd; repeat' split)
   all_goals first | rfl | (exfalso; omega) | (simp only [Option.some.injEq, Prod.mk.injEq]; refine ⟨?_, ?_, ?_⟩ <;> first | omega | trivial | rfl)
  rw [spec_SignAt.j1, if_neg (by simpa using c2)]
  rw [if_pos (by omega : bt s i ≥ 224)]
  by_cases c3 : bt s i < 240
  ·rw [spec_SignAt.j2, if_pos (by simpa using c3), band15, spec_SignAt.j3, w64 (i := (s.size : Int) - 1) (by omega) (by omega), w64 (i := (s.size : Int) - 1 - 2) (by omega) (by omega)]
   have hE : (if i > (s.size : Int) - 1 - 2 then some (0, 0, false) else spec_SignAt.l0 (k + 8) s i 2 2048 (bt s i % 16) 1) = (if i > (s.size : Int) - 3 then some (0, 0, false) else (if bt s (i + 1) < 128 ∨ 191 < bt s (i + 1) then some (0, 0, false) else (if bt s (i + 2) < 128 ∨ 191 < bt s (i + 2) then some (0, 0, false) else some (if ((bt s i % 16) * 64 + bt s (i + 1) - 128) * 64 + bt s (i + 2) - 128 < 2048 ∨ 1114111 < ((bt s i % 16) * 64 + bt s (i + 1) - 128) * 64 + bt s (i + 2) - 128 ∨ (55296 ≤ ((bt s i % 16) * 64 + bt s (i + 1) - 128) * 64 + bt s (i + 2) - 128 ∧ ((bt s i % 16) * 64 + bt s (i + 1) - 128) * 64 + bt s (i + 2) - 128 ≤ 57343) then (0, 0, false) else (((bt s i % 16) * 64 + bt s (i + 1) - 128) * 64 + bt s (i + 2) - 128, i + 1 + 2, true))))) := by
    by_cases t0 : i > (s.size : Int) - 1 - 2
    ·rw [if_pos t0, if_pos (by omega)]
    rw [if_neg t0, if_neg (by omega), l0_step (k + 7) s i 2 2048 _ 1 hs (by omega) (by omega) (by omega) (by omega) (by omega) (by omega) (by omega)]
    by_cases t1 : bt s (i + 1) < 128 ∨ 191 < bt s (i + 1)
    ·rw [if_pos t1, if_pos t1]
    rw [if_neg t1, if_neg t1, show (1 + 1 : Int) = 2 from rfl, l0_step (k + 6) s i 2 2048 _ 2 hs (by omega) (by omega) (by omega) (by omega) (by omega) (by omega) (by omega)]
    by_cases t2 : bt s (i + 2) < 128 ∨ 191 < bt s (i + 2)
    ·rw [if_pos t2, if_pos t2]
    rw [if_neg t2, if_neg t2, l0_end (k + 5) s i 2 2048 _ _ (by omega) (by omega) (by omega) (by omega) (by omega)]
   rw [hE]
   clear hE
   generalize bt s i = b0 at *
   generalize bt s (i + 1) = b1 at *
   generalize bt s (i + 2) = b2 at *
   generalize bt s (i + 3) = b3 at *
   unfold Go.Lib.decodeN at hd
   repeat' split at hd
   all_goals (simp only [Prod.mk.injEq] at hd; obtain ⟨rfl, rfl⟩ := hd; repeat' split)
   all_goals first | rfl | (exfalso; omega) | (simp only [Option.some.injEq, Prod.mk.injEq]; refine ⟨?_, ?_, ?_⟩ <;> first | omega | trivial | rfl)
  rw [spec_SignAt.j2, if_neg (by simpa using c3), if_pos (by omega : bt s i ≥ 240)]
  by_cases c4 : bt s i < 248
  ·rw [if_pos c4, band7, spec_SignAt.j3, w64 (i := (s.size : Int) - 1) (by omega) (by omega), w64 (i := (s.size : Int) - 1 - 3) (by omega) (by omega)]
   have hE : (if i > (s.size : Int) - 1 - 3 then some (0, 0, false) else spec_SignAt.l0 (k + 8) s i 3 65536 (bt s i % 8) 1) = (if i > (s.size : Int) - 4 then some (0, 0, false) else (if bt s (i + 1) < 128 ∨ 191 < bt s (i + 1) then some (0, 0, false) else (if bt s (i + 2) < 128 ∨ 191 < bt s (i + 2) then some (0, 0, false) else (if bt s (i + 3) < 128 ∨ 191 < bt s (i + 3) then some (0, 0, false) else some (if (((bt s i % 8) * 64 + bt s (i + 1) - 128) * 64 + bt s (i + 2) - 128) * 64 + bt s (i + 3) - 128 < 65536 ∨ 1114111 < (((bt s i % 8) * 64 + bt s (i + 1) - 128) * 64 + bt s (i + 2) - 128) * 64 + bt s (i + 3) - 128 ∨ (55296 ≤ (((bt s i % 8) * 64 + bt s (i + 1) - 128) * 64 + bt s (i + 2) - 128) * 64 + bt s (i + 3) - 128 ∧ (((bt s i % 8) * 64 + bt s (i + 1) - 128) * 64 + bt s (i + 2) - 128) * 64 + bt s (i + 3) - 128 ≤ 57343) then (0, 0, false) else ((((bt s i % 8) * 64 + bt s (i + 1) - 128) * 64 + bt s (i + 2) - 128) * 64 + bt s (i + 3) - 128, i + 1 + 3, true)))))) := by
    by_cases t0 : i > (s.size : Int) - 1 - 3
    ·rw [if_pos t0, if_pos (by omega)]
    rw [if_neg t0, if_neg (by omega), l0_step (k + 7) s i 3 65536 _ 1 hs (by omega) (by omega) (by omega) (by omega) (by omega) (by omega) (by omega)]
    by_cases t1 : bt s (i + 1) < 128 ∨ 191 < bt s (i + 1)
    ·rw [if_pos t1, if_pos t1]
    rw [if_neg t1, if_neg t1, show (1 + 1 : Int) = 2 from rfl, l0_step (k + 6) s i 3 65536 _ 2 hs (by omega) (by omega) (by omega) (by omega) (by omega) (by omega) (by omega)]
    by_cases t2 : bt s (i + 2) < 128 ∨ 191 < bt s (i + 2)
    ·rw [if_pos t2, if_pos t2]
    rw [if_neg t2, if_neg t2, show (2 + 1 : Int) = 3 from rfl, l0_step (k + 5) s i 3 65536 _ 3 hs (by omega) (by omega) (by omega) (by omega) (by omega) (by omega) (by omega)]
    by_cases t3 : bt s (i + 3) < 128 ∨ 191 < bt s (i + 3)
    ·rw [if_pos t3, if_pos t3]
    rw [if_neg t3, if_neg t3, l0_end (k + 4) s i 3 65536 _ _ (by omega) (by omega) (by omega) (by omega) (by omega)]
   rw [hE]
   clear hE
   generalize bt s i = b0 at *
   generalize bt s (i + 1) = b1 at *
   generalize bt s (i + 2) = b2 at *
   generalize bt s (i + 3) = b3 at *
   unfold Go.Lib.decodeN at hd
   repeat' split at hd
   all_goals (simp only [Prod.mk.injEq] at hd; obtain ⟨rfl, rfl⟩ := hd; repeat' split)
   all_goals first | rfl | (exfalso; omega) | (simp only [Option.some.injEq, Prod.mk.injEq]; refine ⟨?_, ?_, ?_⟩ <;> first | omega | trivial | rfl)
  rw [if_neg c4]
  unfold Go.Lib.decodeN at hd
  rw [if_neg (by omega), if_neg (by omega), if_neg (by omega), if_neg (by omega)] at hd
  obtain ⟨rfl, rfl⟩ := Prod.mk.inj hd
  rfl
 ·rw [if_neg c1, spec_SignAt.j1, if_neg (by decide), if_neg (by omega), spec_SignAt.j2, if_neg (by decide), if_neg (by omega)]
  unfold Go.Lib.decodeN at hd
  rw [if_neg (by omega), if_neg (by omega), if_neg (by omega), if_neg (by omega)] at hd
  obtain ⟨rfl, rfl⟩ := Prod.mk.inj hd
  rfl
theorem SignAt_ev (s : ByteArray) (i : Int) (hs : s.size ≤ 16777216) : Ev (fun k => spec_SignAt.f k s i) (sgn s i) := ⟨12, fun k hk => by
 obtain ⟨m, rfl⟩ : ∃ m, k = m + 12 := ⟨k - 12, by omega⟩
 exact specSignAt_f m s i hs⟩
theorem sgn_ok (s : ByteArray) (i : Int) (h : (sgn s i).2.2 = true) : 0 ≤ i ∧ i < s.size ∧ i < (sgn s i).2.1 ∧ (sgn s i).2.1 ≤ s.size := by
 revert h
 unfold sgn
 by_cases h0 : i < 0 ∨ (s.size : Int) ≤ i
 ·rw [if_pos h0]; intro h; exact absurd h (by simp)
 rw [if_neg h0]
 have hd := Go.Lib.decode_at s i.toNat
 have hw := dec_le s i.toNat
 generalize Go.Utf8.decode s i.toNat = d at *
 obtain ⟨d1, d2⟩ := d
 by_cases h1 : (d1 : Int) = 65533 ∧ (d2 : Int) ≤ 1
 ·rw [if_pos h1]; intro h; exact absurd h (by simp)
 rw [if_neg h1]
 intro _
 have e : i + (d2 : Int) ≤ s.size := by
  unfold Go.Lib.decodeN at hd
  repeat' split at hd
  all_goals (simp only [Prod.mk.injEq] at hd; obtain ⟨rfl, rfl⟩ := hd; omega)
 simp only at hw
 exact ⟨by omega, by omega, by simp only; omega, e⟩
theorem and63 (n : Int) : Go.bits .and .i64 n 63 = n % 64 := by
 have h63 : (BitVec.ofInt 64 63).toNat = 2 ^ 6 - 1 := by decide
 have key : (BitVec.ofInt 64 n &&& BitVec.ofInt 64 63).toNat = (n % ((2 ^ 64 : Nat) : Int)).toNat % 2 ^ 6 := by
  rw [BitVec.toNat_and, BitVec.toNat_ofInt, h63, Nat.and_two_pow_sub_one_eq_mod]
 show IntKind.i64.wrap ((BitVec.ofInt 64 n &&& BitVec.ofInt 64 63).toNat : Nat) = n % 64
 rw [key, IntKind.wrap_i64]
 omega
theorem s1 (a : Int) (c : Nat) (h : a.toNat = c) : strOfNums [a] = ⟨#[UInt8.ofNat c]⟩ := by subst h; rfl
theorem s2 (a b : Int) (c d : Nat) (h : a.toNat = c) (h2 : b.toNat = d) : strOfNums [a, b] = ⟨#[UInt8.ofNat c, UInt8.ofNat d]⟩ := by subst h h2; rfl
theorem s3 (a b e : Int) (c d g : Nat) (h : a.toNat = c) (h2 : b.toNat = d) (h3 : e.toNat = g) : strOfNums [a, b, e] = ⟨#[UInt8.ofNat c, UInt8.ofNat d, UInt8.ofNat g]⟩ := by subst h h2 h3; rfl
theorem s4 (a b e f : Int) (c d g i : Nat) (h : a.toNat = c) (h2 : b.toNat = d) (h3 : e.toNat = g) (h4 : f.toNat = i) : strOfNums [a, b, e, f] = ⟨#[UInt8.ofNat c, UInt8.ofNat d, UInt8.ofNat g, UInt8.ofNat i]⟩ := by subst h h2 h3 h4; rfl
theorem encode_of (n : Int) (h0 : 0 ≤ n) (h1 : n ≤ 1114111) (hs : ¬ (55296 ≤ n ∧ n ≤ 57343)) (x : ByteArray)
  (a1 : n < 128 → x = ⟨#[UInt8.ofNat n.toNat]⟩) (a2 : 128 ≤ n → n < 2048 → x = ⟨#[UInt8.ofNat (192 + n.toNat / 64), UInt8.ofNat (128 + n.toNat % 64)]⟩)
  (a3 : 2048 ≤ n → n < 65536 → x = ⟨#[UInt8.ofNat (224 + n.toNat / 4096), UInt8.ofNat (128 + n.toNat / 64 % 64), UInt8.ofNat (128 + n.toNat % 64)]⟩)
  (a4 : 65536 ≤ n → x = ⟨#[UInt8.ofNat (240 + n.toNat / 262144), UInt8.ofNat (128 + n.toNat / 4096 % 64), UInt8.ofNat (128 + n.toNat / 64 % 64), UInt8.ofNat (128 + n.toNat % 64)]⟩) : x = Utf8.encode n := by
 have hv : Utf8.valid n = true := by
  unfold Utf8.valid
  simp only [Bool.or_eq_true, Bool.and_eq_true, decide_eq_true_eq]
  omega
 unfold Utf8.encode
 simp only [hv, if_true]
 by_cases c1 : n < 128
 ·rw [if_pos (by omega)]
  exact a1 c1
 rw [if_neg (by omega)]
 by_cases c2 : n < 2048
 ·rw [if_pos (by omega)]
  exact a2 (by omega) c2
 rw [if_neg (by omega)]
 by_cases c3 : n < 65536
 ·rw [if_pos (by omega)]
  exact a3 (by omega) c3
 rw [if_neg (by omega)]
 exact a4 (by omega)
theorem SignText_f (n : Int) : ∃ r, Ev (fun k => spec_SignText.f k n) r ∧ impl_SignText.f n = some r := by
 have hw : ∀ i : Int, 0 ≤ i → i ≤ 9223372036854775807 → wrap64 i = i := fun i h0 h1 => w64 (by omega) h1
 have hh : ∀ lo hi, impl_SignText.has n lo hi = (decide (lo ≤ n) && decide (n ≤ hi)) := fun _ _ => rfl
 by_cases h0 : n < 0
 ·refine ⟨⟨#[]⟩, Ev.step (fun k => ?_) (Ev.now _), ?_⟩
  ·simp only [spec_SignText.f, spec_SignText.j0]
   rw [if_pos h0, if_pos trivial]
  ·unfold impl_SignText.f
   rw [hh, if_neg (by simp; omega)]
 by_cases h1 : n > 1114111
 ·refine ⟨⟨#[]⟩, Ev.step (fun k => ?_) (Ev.now _), ?_⟩
  ·simp only [spec_SignText.f, spec_SignText.j0]
   rw [if_neg h0, if_pos h1, if_pos trivial]
  ·unfold impl_SignText.f
   rw [hh, if_neg (by simp; omega)]
 by_cases hs : 55296 ≤ n ∧ n ≤ 57343
 ·refine ⟨⟨#[]⟩, Ev.step (fun k => ?_) (Ev.now _), ?_⟩
  ·simp only [spec_SignText.f, spec_SignText.j0]
   have e : inR n (55296, 57343) = true := by simp [inR, hs.1, hs.2]
   rw [if_neg h0, if_neg h1, l1In_f, e]
   rfl
  ·unfold impl_SignText.f
   rw [hh, if_pos (by simp; omega), hh, if_pos (by simp; omega)]
 ·have e : inR n (55296, 57343) = false := by
   unfold inR
   rw [Bool.eq_false_iff]
   simp
   omega
  have hf : ∀ k, spec_SignText.f (k + 1) n = spec_SignText.j0 (k + 1) n false := fun k => by
   simp only [spec_SignText.f]
   rw [if_neg h0, if_neg h1, l1In_f, e]
   rfl
  refine ⟨Utf8.encode n, ?_, ?_⟩
  ·by_cases c1 : n < 128
   ·refine Ev.step (fun k => (hf k).trans ?_) (Ev.now _)
    simp only [spec_SignText.j0]
    rw [if_neg (by simp), if_pos c1]
    exact congrArg some (encode_of n (by omega) (by omega) hs _ (fun _ => s1 _ _ (by omega)) (fun _ _ => by omega) (fun _ _ => by omega) (fun _ => by omega))
   by_cases c2 : n < 2048
   ·refine Ev.step (fun k => (hf k).trans ?_) (Ev.now _)
    simp only [spec_SignText.j0]
    rw [if_neg (by simp), if_neg c1, if_pos c2]
    exact congrArg some (encode_of n (by omega) (by omega) hs _ (fun _ => by omega) (fun _ _ => s2 _ _ _ _ (by rw [hw _ (by omega) (by omega)]; omega) (by rw [and63, hw _ (by omega) (by omega)]; omega)) (fun _ _ => by omega) (fun _ => by omega))
   by_cases c3 : n < 65536
   ·refine Ev.step (fun k => (hf k).trans ?_) (Ev.now _)
    simp only [spec_SignText.j0]
    rw [if_neg (by simp), if_neg c1, if_neg c2, if_pos c3]
    exact congrArg some (encode_of n (by omega) (by omega) hs _ (fun _ => by omega) (fun _ _ => by omega) (fun _ _ => s3 _ _ _ _ _ _ (by rw [hw _ (by omega) (by omega)]; omega) (by rw [and63, hw _ (by omega) (by omega)]; omega) (by rw [and63, hw _ (by omega) (by omega)]; omega)) (fun _ => by omega))
   ·refine Ev.step (fun k => (hf k).trans ?_) (Ev.now _)
    simp only [spec_SignText.j0]
    rw [if_neg (by simp), if_neg c1, if_neg c2, if_neg c3]
    exact congrArg some (encode_of n (by omega) (by omega) hs _ (fun _ => by omega) (fun _ _ => by omega) (fun _ _ => by omega) (fun _ => s4 _ _ _ _ _ _ _ _ (by rw [hw _ (by omega) (by omega)]; omega) (by rw [and63, hw _ (by omega) (by omega)]; omega) (by rw [and63, hw _ (by omega) (by omega)]; omega) (by rw [and63, hw _ (by omega) (by omega)]; omega)))
  ·unfold impl_SignText.f
   rw [hh, if_pos (by simp; omega), hh, if_neg (by simp; omega)]
/-! ### what is drawn: the cursor (b, i, h): its place stays within, every draw comes to its end -/
theorem and255 (n : Int) : Go.bits .and .i64 n 255 = n % 256 := by
 have h63 : (BitVec.ofInt 64 255).toNat = 2 ^ 8 - 1 := by decide
 have key : (BitVec.ofInt 64 n &&& BitVec.ofInt 64 255).toNat = (n % ((2 ^ 64 : Nat) : Int)).toNat % 2 ^ 8 := by
  rw [BitVec.toNat_and, BitVec.toNat_ofInt, h63, Nat.and_two_pow_sub_one_eq_mod]
 show IntKind.i64.wrap ((BitVec.ofInt 64 n &&& BitVec.ofInt 64 255).toNat : Nat) = n % 256
 rw [key, IntKind.wrap_i64]
 omega
/-- The cursor's place is within. -/
def At (b : List Int) (i : Int) : Prop := b.length ≤ 1048576 ∧ 0 ≤ i ∧ i ≤ b.length
theorem l1New_l (b : List Int) (hb : b.length ≤ 1048576) (d : Nat) : ∀ (i : Nat) (h : Int), i ≤ b.length → b.length - i = d → ∃ h', Ev (fun k => spec_l1New.l0 k b h (i : Int)) (b, 0, h') := by
 induction d with
 | zero =>
  intro i h hi hd
  exact ⟨h, Ev.step (f := fun _ => some _) (fun k => by simp only [spec_l1New.l0]; rw [if_neg (by omega)]) (Ev.now _)⟩
 | succ d ih =>
  intro i h hi hd
  have w1 : wrap64 ((i : Int) + 1) = ((i + 1 : Nat) : Int) := by rw [w64 (by omega) (by omega)]; omega
  by_cases h4 : (i : Int) < 4000
  ·obtain ⟨h', hh⟩ := ih (i + 1) _ (by omega) (by omega)
   exact ⟨h', Ev.step (fun k => by simp only [spec_l1New.l0]; rw [if_pos (by omega), if_pos h4, if_pos (by omega), w1]) hh⟩
  ·exact ⟨h, Ev.step (f := fun _ => some _) (fun k => by simp only [spec_l1New.l0]; rw [if_pos (by omega), if_neg h4]) (Ev.now _)⟩
theorem l1New_f (b : List Int) (hb : b.length ≤ 1048576) : ∃ h, Ev (fun k => spec_l1New.f k b) (b, 0, h) := by
 obtain ⟨h, hh⟩ := l1New_l b hb b.length 0 _ (by omega) (by omega)
 exact ⟨h, hh⟩
theorem at0 (b : List Int) (hb : b.length ≤ 1048576) : At b 0 := ⟨hb, by omega, by omega⟩
theorem l1Byte_f (b : List Int) (i h : Int) (ha : At b i) : ∃ x i' h', spec_l1Byte.f b i h = some (x, i', h') ∧ 0 ≤ x ∧ x < 256 ∧ At b i' := by
 obtain ⟨hb, h0, h1⟩ := ha
 unfold spec_l1Byte.f
 by_cases hlt : i < (b.length : Int)
 ·rw [if_pos hlt, if_pos h0, w64 (i := i + 1) (by omega) (by omega)]
  refine ⟨_, _, _, rfl, ?_, ?_, hb, by omega, by omega⟩
  all_goals (rw [and255]; omega)
 ·rw [if_neg hlt]
  refine ⟨_, _, _, rfl, ?_, ?_, hb, h0, h1⟩
  all_goals (rw [and255]; omega)
theorem l1Below_f (b : List Int) (i h n : Int) (ha : At b i) (hn : 1 ≤ n) : ∃ x i' h', spec_l1Below.f b i h n = some (x, i', h') ∧ 0 ≤ x ∧ x < n ∧ At b i' := by
 unfold spec_l1Below.f
 rw [if_neg (by omega)]
 obtain ⟨x, i1, h1, e1, x0, x1, a1⟩ := l1Byte_f b i h ha
 by_cases hs : n ≤ 256
 ·rw [if_pos hs, e1, Option.bind_some, if_neg (by omega)]
  exact ⟨_, _, _, rfl, Int.tmod_nonneg n x0, Int.tmod_lt_of_pos x (by omega), a1⟩
 ·rw [if_neg hs, e1, Option.bind_some]
  obtain ⟨y, i2, h2, e2, y0, y1, a2⟩ := l1Byte_f b i1 h1 a1
  simp only
  rw [e2, Option.bind_some]
  obtain ⟨z, i3, h3, e3, z0, z1, a3⟩ := l1Byte_f b i2 h2 a2
  simp only
  rw [e3, Option.bind_some, if_neg (by omega)]
  refine ⟨_, _, _, rfl, Int.tmod_nonneg n ?_, Int.tmod_lt_of_pos _ (by omega), a3⟩
  rw [w64 (i := x * 65536) (by omega) (by omega), w64 (i := y * 256) (by omega) (by omega), w64 (i := x * 65536 + y * 256) (by omega) (by omega), w64 (i := x * 65536 + y * 256 + z) (by omega) (by omega)]
  omega
theorem l1Str_f (b : List Int) (i h : Int) (l : List ByteArray) (ha : At b i) (hl : 1 ≤ l.length) : ∃ x i' h', spec_l1Str.f b i h l = some (x, i', h') ∧ x ∈ l ∧ At b i' := by
 obtain ⟨x, i1, h1, e1, x0, x1, a1⟩ := l1Below_f b i h (l.length : Int) ha (by omega)
 unfold spec_l1Str.f
 rw [e1, Option.bind_some]
 simp only
 rw [if_pos x0, if_pos x1]
 refine ⟨_, _, _, rfl, ?_, a1⟩
 have hx : x.toNat < l.length := by omega
 unfold rdOf
 rw [List.getD_eq_getElem?_getD, List.getElem?_eq_getElem hx, Option.getD_some]
 exact List.getElem_mem hx
theorem l1Once_f (b : List Int) (i h n : Int) (ha : At b i) (hn : 1 ≤ n) : ∃ x i' h', spec_l1Once.f b i h n = some (x, i', h') ∧ At b i' := by
 obtain ⟨x, i1, h1, e1, x0, x1, a1⟩ := l1Below_f b i h n ha hn
 unfold spec_l1Once.f
 rw [e1, Option.bind_some]
 exact ⟨_, _, _, rfl, a1⟩
theorem l1Int_f (b : List Int) (i h : Int) (l : List Int) (ha : At b i) (hl : 1 ≤ l.length) : ∃ x i' h', spec_l1Int.f b i h l = some (x, i', h') ∧ x ∈ l ∧ At b i' := by
 obtain ⟨x, i1, h1, e1, x0, x1, a1⟩ := l1Below_f b i h (l.length : Int) ha (by omega)
 unfold spec_l1Int.f
 rw [e1, Option.bind_some]
 simp only
 rw [if_pos x0, if_pos x1]
 refine ⟨_, _, _, rfl, ?_, a1⟩
 have hx : x.toNat < l.length := by omega
 unfold rd
 rw [List.getD_eq_getElem?_getD, List.getElem?_eq_getElem hx, Option.getD_some]
 exact List.getElem_mem hx
theorem l1Num_f (b : List Int) (i h : Int) (ha : At b i) : ∃ x i' h', spec_l1Num.f b i h = some (x, i', h') ∧ At b i' := by
 unfold spec_l1Num.f
 obtain ⟨x, i1, h1, e1, _, a1⟩ := l1Int_f b i h [0, 9, 10, 13, 31, 32, 45, 48, 58, 65, 95, 97, 127, 128, 183, 192, 215, 247, 767, 768, 880, 894, 2047, 2048, 8204, 8255, 12288, 55295, 55296, 57343, 57344, 65533, 65534, 65535, 65536, 983039, 983040, 1114111, 1114112, (-1)] ha (by decide)
 rw [e1, Option.bind_some]
 exact ⟨_, _, _, rfl, a1⟩
theorem l1Text_l1 (b : List Int) : ∀ (n : Nat) (x : ByteArray) (i h : Int), x.size + n = 700 → At b i → ∃ r i' h', Ev (fun k => spec_l1Text.l1 k x b i h) (r, i', h') ∧ r.size ≤ 700 ∧ At b i'
 | n, x, i, h, hn, ha => by
  obtain ⟨y, i1, h1, e1, y1, a1⟩ := l1Int_f b i h [600, 601] ha (by decide)
  have hy : y ≤ 601 := by
   simp only [List.mem_cons, List.not_mem_nil, or_false] at y1
   omega
  by_cases c : (x.size : Int) < y
  ·match n, hn with
   | 0, hn => exact absurd c (by omega)
   | n + 1, hn =>
    have hz : (x ++ (⟨#[120]⟩ : ByteArray)).size = x.size + 1 := by rw [ByteArray.size_append]; rfl
    obtain ⟨r, i2, h2, e2, r1, a2⟩ := l1Text_l1 b n (x ++ (⟨#[120]⟩ : ByteArray)) i1 h1 (by omega) a1
    exact ⟨r, i2, h2, Ev.step (fun k => by simp only [spec_l1Text.l1]; rw [e1, Option.bind_some, if_pos c, if_pos (by omega)]) e2, r1, a2⟩
  ·exact ⟨x, i1, h1, Ev.step (f := fun _ => some _) (fun k => by simp only [spec_l1Text.l1]; rw [e1, Option.bind_some, if_neg c]) (Ev.now _), by omega, a1⟩
theorem l1Text_l0 (b : List Int) : ∀ (n : Nat) (x : ByteArray) (i h : Int), n ≤ 3 → x.size + 4 * n ≤ 40 → At b i → ∃ r i' h', Ev (fun k => spec_l1Text.l0 k x (n : Int) b i h) (r, i', h') ∧ r.size ≤ 700 ∧ At b i'
 | 0, x, i, h, hn, hx, ha => by
  obtain ⟨y, i1, h1, e1, a1⟩ := l1Once_f b i h 40 ha (by decide)
  cases y with
  | true =>
   obtain ⟨r, i2, h2, e2, r1, a2⟩ := l1Text_l1 b (700 - x.size) x i1 h1 (by omega) a1
   exact ⟨r, i2, h2, Ev.step (fun k => by simp only [spec_l1Text.l0]; rw [if_neg (by decide), e1, Option.bind_some, if_pos rfl]) e2, r1, a2⟩
  | false => exact ⟨x, i1, h1, Ev.step (f := fun _ => some _) (fun k => by simp only [spec_l1Text.l0]; rw [if_neg (by decide), e1, Option.bind_some, if_neg (by simp)]) (Ev.now _), by omega, a1⟩
 | n + 1, x, i, h, hn, hx, ha => by
  obtain ⟨y, i1, h1, e1, y1, a1⟩ := l1Str_f b i h [(⟨#[97]⟩ : ByteArray), (⟨#[98, 32, 99]⟩ : ByteArray), (⟨#[32]⟩ : ByteArray), (⟨#[10]⟩ : ByteArray), (⟨#[195, 169]⟩ : ByteArray), (⟨#[226, 130, 172]⟩ : ByteArray), (⟨#[240, 159, 152, 128]⟩ : ByteArray), (⟨#[60]⟩ : ByteArray), (⟨#[38]⟩ : ByteArray), (⟨#[62]⟩ : ByteArray), (⟨#[34]⟩ : ByteArray), (⟨#[39]⟩ : ByteArray), (⟨#[93, 93, 62]⟩ : ByteArray), (⟨#[45, 45]⟩ : ByteArray), (⟨#[9]⟩ : ByteArray), (⟨#[13]⟩ : ByteArray), (⟨#[0]⟩ : ByteArray), (⟨#[255]⟩ : ByteArray), (⟨#[192, 128]⟩ : ByteArray), (⟨#[239, 191, 190]⟩ : ByteArray)] ha (by decide)
  have hy : y.size ≤ 4 := by
   revert y1
   generalize y = z
   revert z
   decide
  have hz : (x ++ y).size = x.size + y.size := ByteArray.size_append
  obtain ⟨r, i2, h2, e2, r1, a2⟩ := l1Text_l0 b n (x ++ y) i1 h1 (by omega) (by omega) a1
  have hw : wrap64 (((n + 1 : Nat) : Int) - 1) = (n : Int) := by rw [w64 (by omega) (by omega)]; omega
  exact ⟨r, i2, h2, Ev.step (fun k => by simp only [spec_l1Text.l0]; rw [if_pos (by omega), e1, Option.bind_some]; dsimp only; rw [if_pos (by omega), hw]) e2, r1, a2⟩
theorem l1Text_f (b : List Int) (i h : Int) (ha : At b i) : ∃ r i' h', Ev (fun k => spec_l1Text.f k b i h) (r, i', h') ∧ r.size ≤ 700 ∧ At b i' := by
 obtain ⟨x, i1, h1, e1, x0, x1, a1⟩ := l1Below_f b i h 4 ha (by decide)
 obtain ⟨n, rfl⟩ := Int.eq_ofNat_of_zero_le x0
 obtain ⟨r, i2, h2, e2, r1, a2⟩ := l1Text_l0 b n (⟨#[]⟩ : ByteArray) i1 h1 (by omega) (by have : (⟨#[]⟩ : ByteArray).size = 0 := rfl; omega) a1
 exact ⟨r, i2, h2, Ev.congr (fun k => by simp only [spec_l1Text.f]; rw [e1, Option.bind_some]) e2, r1, a2⟩
theorem l1Bend_f (b : List Int) (i h : Int) (a : ByteArray) (hs : a.size ≤ 4096) (ha : At b i) : ∃ r i' h', spec_l1Bend.f b i h a = some (r, i', h') ∧ r.size ≤ 10000 ∧ At b i' := by
 obtain ⟨x, i1, h1, e1, x0, x1, a1⟩ := l1Below_f b i h 8 ha (by decide)
 have hl := spec_l1Bend.ns_length a
 unfold spec_l1Bend.f
 rw [if_pos hs, e1, Option.bind_some]
 dsimp only
 by_cases c0 : x = 0
 ·rw [if_pos c0]
  by_cases hp : 0 < a.size
  ·rw [if_pos hp]
   obtain ⟨u, i2, h2, e2, u0, u1, a2⟩ := l1Below_f b i1 h1 (a.size : Int) a1 (by omega)
   rw [e2, Option.bind_some]
   dsimp only
   obtain ⟨z, i3, h3, e3, z0, z1, a3⟩ := l1Below_f b i2 h2 255 a2 (by decide)
   rw [e3, Option.bind_some, if_pos ⟨u0, u1⟩]
   exact ⟨_, _, _, rfl, by rw [strOfNums_size, List.length_set]; omega, a3⟩
  ·rw [if_neg hp]
   exact ⟨_, _, _, rfl, by rw [strOfNums_size]; omega, a1⟩
 rw [if_neg c0]
 by_cases c1 : x = 1
 ·rw [if_pos c1]
  by_cases hp : 0 < a.size
  ·rw [if_pos hp]
   obtain ⟨u, i2, h2, e2, u0, u1, a2⟩ := l1Below_f b i1 h1 (a.size : Int) a1 (by omega)
   rw [e2, Option.bind_some, if_pos ⟨u0, u1⟩]
   exact ⟨_, _, _, rfl, by rw [strOfNums_size, List.length_append, List.length_take, List.length_drop]; omega, a2⟩
  ·rw [if_neg hp]
   exact ⟨_, _, _, rfl, by rw [strOfNums_size]; omega, a1⟩
 rw [if_neg c1]
 by_cases c2 : x = 2
 ·rw [if_pos c2]
  obtain ⟨u, i2, h2, e2, u0, u1, a2⟩ := l1Below_f b i1 h1 ((a.size : Int) + 1) a1 (by omega)
  rw [e2, Option.bind_some]
  dsimp only
  obtain ⟨y, i3, h3, e3, y1, a3⟩ := l1Str_f b i2 h2 [(⟨#[60]⟩ : ByteArray), (⟨#[62]⟩ : ByteArray), (⟨#[38]⟩ : ByteArray), (⟨#[34]⟩ : ByteArray), (⟨#[39]⟩ : ByteArray), (⟨#[47]⟩ : ByteArray), (⟨#[32]⟩ : ByteArray), (⟨#[61]⟩ : ByteArray), (⟨#[10]⟩ : ByteArray), (⟨#[93]⟩ : ByteArray), (⟨#[120]⟩ : ByteArray), (⟨#[255]⟩ : ByteArray), (⟨#[45]⟩ : ByteArray)] a2 (by decide)
  have hy : y.size ≤ 4 := by
   revert y1
   generalize y = z
   revert z
   decide
  have hyl := spec_l1Bend.ns_length y
  rw [e3, Option.bind_some]
  dsimp only
  rw [if_pos ⟨u0, by omega, by omega⟩]
  exact ⟨_, _, _, rfl, by rw [strOfNums_size, List.length_append, List.length_append, List.length_take, List.length_drop]; omega, a3⟩
 rw [if_neg c2]
 exact ⟨_, _, _, rfl, by rw [strOfNums_size]; omega, a1⟩
theorem drawSignText_f (b : List Int) (hb : b.length ≤ 1048576) : ∃ n, Ev (fun k => spec_DrawSignText.f k b) n := by
 obtain ⟨h, e⟩ := l1New_f b hb
 obtain ⟨y, i1, h1, e1, a1⟩ := l1Once_f b 0 h 2 (at0 b hb) (by decide)
 cases y with
 | true =>
  obtain ⟨x, i2, h2, e2, a2⟩ := l1Num_f b i1 h1 a1
  exact ⟨x, Ev.congr (fun k => by simp only [spec_DrawSignText.f]; rfl) (Ev.bind e (Ev.congr (fun k => by dsimp only; rw [e1, Option.bind_some, if_pos rfl, e2, Option.bind_some]) (Ev.now _)))⟩
 | false =>
  obtain ⟨x, i2, h2, e2, _, _, a2⟩ := l1Below_f b i1 h1 70000 a1 (by decide)
  exact ⟨x, Ev.congr (fun k => by simp only [spec_DrawSignText.f]; rfl) (Ev.bind e (Ev.congr (fun k => by dsimp only; rw [e1, Option.bind_some, if_neg (by simp), e2, Option.bind_some]) (Ev.now _)))⟩
theorem drawSignAt_f (b : List Int) (hb : b.length ≤ 1048576) : ∃ r : ByteArray × Int, Ev (fun k => spec_DrawSignAt.f k b) r ∧ r.1.size ≤ 10000 := by
 obtain ⟨h, e⟩ := l1New_f b hb
 obtain ⟨t, i1, h1, e1, t1, a1⟩ := l1Text_f b 0 h (at0 b hb)
 obtain ⟨s, i2, h2, e2, s1, a2⟩ := l1Bend_f b i1 h1 t (by omega) a1
 obtain ⟨x, i3, h3, e3, _, _, a3⟩ := l1Below_f b i2 h2 5 a2 (by decide)
 refine ⟨(s, wrap64 (x - 1)), ?_, s1⟩
 unfold spec_DrawSignAt.f
 refine Ev.bind e ?_
 refine Ev.bind e1 ?_
 refine Ev.congr (fun k => ?_) (Ev.now _)
 dsimp only
 rw [e2, Option.bind_some]
 dsimp only
 rw [e3, Option.bind_some]
/-- A number that is a sign's. -/
def RuneOk (n : Int) : Prop := 0 ≤ n ∧ n ≤ 1114111 ∧ ¬ (55296 ≤ n ∧ n ≤ 57343)
theorem enc_list (n : Int) (h : RuneOk n) : (Utf8.encode n).data.toList = Go.Lib.encodeRune n := by
 obtain ⟨h0, h1, hs⟩ := h
 unfold Go.Lib.encodeRune
 by_cases c1 : n < 128
 ·rw [Go.Lib.encodeRuneZ_one h0 (by omega), ← encode_of n h0 h1 hs ⟨#[UInt8.ofNat n.toNat]⟩ (fun _ => rfl) (fun _ _ => by omega) (fun _ _ => by omega) (fun _ => by omega)]
  rfl
 by_cases c2 : n < 2048
 ·rw [Go.Lib.encodeRuneZ_two (by omega) (by omega), ← encode_of n h0 h1 hs ⟨#[UInt8.ofNat (192 + n.toNat / 64), UInt8.ofNat (128 + n.toNat % 64)]⟩ (fun _ => by omega) (fun _ _ => rfl) (fun _ _ => by omega) (fun _ => by omega)]
  simp only [List.map_cons, List.map_nil]
  rw [show (192 + n / 64).toNat = 192 + n.toNat / 64 by omega, show (128 + n % 64).toNat = 128 + n.toNat % 64 by omega]
 by_cases c3 : n < 65536
 ·rw [Go.Lib.encodeRuneZ_three (by omega), ← encode_of n h0 h1 hs ⟨#[UInt8.ofNat (224 + n.toNat / 4096), UInt8.ofNat (128 + n.toNat / 64 % 64), UInt8.ofNat (128 + n.toNat % 64)]⟩ (fun _ => by omega) (fun _ _ => by omega) (fun _ _ => rfl) (fun _ => by omega)]
  simp only [List.map_cons, List.map_nil]
  rw [show (224 + n / 4096).toNat = 224 + n.toNat / 4096 by omega, show (128 + n / 64 % 64).toNat = 128 + n.toNat / 64 % 64 by omega, show (128 + n % 64).toNat = 128 + n.toNat % 64 by omega]
 ·rw [Go.Lib.encodeRuneZ_four (by omega) h1, ← encode_of n h0 h1 hs ⟨#[UInt8.ofNat (240 + n.toNat / 262144), UInt8.ofNat (128 + n.toNat / 4096 % 64), UInt8.ofNat (128 + n.toNat / 64 % 64), UInt8.ofNat (128 + n.toNat % 64)]⟩ (fun _ => by omega) (fun _ _ => by omega) (fun _ _ => by omega) (fun _ => rfl)]
  simp only [List.map_cons, List.map_nil]
  rw [show (240 + n / 262144).toNat = 240 + n.toNat / 262144 by omega, show (128 + n / 4096 % 64).toNat = 128 + n.toNat / 4096 % 64 by omega, show (128 + n / 64 % 64).toNat = 128 + n.toNat / 64 % 64 by omega, show (128 + n % 64).toNat = 128 + n.toNat % 64 by omega]
theorem toU8 (m : Nat) (h : m < 256) : (m.toUInt8).toNat = m := by
 simp
 omega
theorem dec_enc (n : Int) (h : RuneOk n) : Go.Lib.decodeL (Go.Lib.encodeRune n) = (n.toNat, (Go.Lib.encodeRune n).length) := by
 obtain ⟨h0, h1, hs⟩ := h
 rw [Go.Lib.decodeL_N]
 unfold Go.Lib.encodeRune
 by_cases c1 : n < 128
 ·rw [Go.Lib.encodeRuneZ_one h0 (by omega)]
  simp only [List.map_cons, List.map_nil, List.getD_cons_zero, List.length_cons, List.length_nil]
  rw [toU8 _ (by omega)]
  unfold Go.Lib.decodeN
  rw [if_pos (by omega)]
 by_cases c2 : n < 2048
 ·rw [Go.Lib.encodeRuneZ_two (by omega) (by omega)]
  simp only [List.map_cons, List.map_nil, List.getD_cons_zero, List.getD_cons_succ, List.length_cons, List.length_nil]
  rw [toU8 _ (by omega), toU8 _ (by omega)]
  unfold Go.Lib.decodeN
  rw [if_neg (by omega), if_pos ⟨by omega, by omega, by omega⟩, if_pos (by omega)]
  exact Prod.ext (by dsimp only; omega) rfl
 by_cases c3 : n < 65536
 ·rw [Go.Lib.encodeRuneZ_three (by omega)]
  simp only [List.map_cons, List.map_nil, List.getD_cons_zero, List.getD_cons_succ, List.length_cons, List.length_nil]
  rw [toU8 _ (by omega), toU8 _ (by omega), toU8 _ (by omega)]
  unfold Go.Lib.decodeN
  rw [if_neg (by omega), if_neg (by omega), if_pos ⟨by omega, ⟨by omega, by omega⟩, by omega, by omega⟩, if_pos (by omega)]
  exact Prod.ext (by dsimp only; omega) rfl
 ·rw [Go.Lib.encodeRuneZ_four (by omega) h1]
  simp only [List.map_cons, List.map_nil, List.getD_cons_zero, List.getD_cons_succ, List.length_cons, List.length_nil]
  rw [toU8 _ (by omega), toU8 _ (by omega), toU8 _ (by omega), toU8 _ (by omega)]
  unfold Go.Lib.decodeN
  rw [if_neg (by omega), if_neg (by omega), if_neg (by omega), if_pos ⟨by omega, ⟨by omega, by omega⟩, ⟨by omega, by omega⟩, by omega, by omega⟩, if_pos (by omega)]
  exact Prod.ext (by dsimp only; omega) rfl
theorem enc_len (n : Int) (h : RuneOk n) : ((Utf8.encode n).size = (Go.Lib.encodeRune n).length ∧ 1 ≤ (Go.Lib.encodeRune n).length) ∧ (n = 65533 → (Go.Lib.encodeRune n).length = 3) := by
 refine ⟨⟨?_, ?_⟩, fun hn => ?_⟩
 ·rw [← enc_list n h, Array.length_toList]
  rfl
 ·have := (Go.Lib.encodeRuneZ_length n).1
  simpa [Go.Lib.encodeRune] using this
 ·subst hn
  rfl
theorem sgn_enc (n : Int) (h : RuneOk n) : sgn (Utf8.encode n) 0 = (n, ((Utf8.encode n).size : Int), true) := by
 obtain ⟨⟨l1, l2⟩, l3⟩ := enc_len n h
 have hd : Go.Utf8.decode (Utf8.encode n) 0 = (n.toNat, (Utf8.encode n).size) := by
  have e := Go.Lib.decodeL_drop (Utf8.encode n) 0
  rw [List.drop_zero, enc_list n h, dec_enc n h, ← l1] at e
  exact e.symm
 have hn := h.1
 unfold sgn
 simp only [Int.toNat_zero]
 have hno : ¬ (((n.toNat : Nat) : Int) = 65533 ∧ ((Utf8.encode n).size : Int) ≤ 1) := fun hc => by
  have := l3 (by omega)
  omega
 rw [hd, if_neg (by omega), if_neg hno]
 exact Prod.ext (by dsimp only; omega) (Prod.ext (by dsimp only; omega) rfl)
theorem sgn_dec (t : ByteArray) (i : Int) (h : (sgn t i).2.2 = true) : RuneOk (sgn t i).1 ∧ (Utf8.encode (sgn t i).1).toList = (t.extract i.toNat (sgn t i).2.1.toNat).toList := by
 unfold sgn at h ⊢
 by_cases c1 : i < 0 ∨ (t.size : Int) ≤ i
 ·rw [if_pos c1] at h
  cases h
 rw [if_neg c1] at h ⊢
 by_cases c2 : ((Go.Utf8.decode t i.toNat).1 : Int) = 65533 ∧ ((Go.Utf8.decode t i.toNat).2 : Int) ≤ 1
 ·rw [if_pos c2] at h
  cases h
 rw [if_neg c2]
 dsimp only
 obtain ⟨p, rfl⟩ := Int.eq_ofNat_of_zero_le (show 0 ≤ i by omega)
 simp only [Int.toNat_natCast] at c2 ⊢
 have hsz := Go.Lib.size_eq t
 have hne : t.data.toList.drop p ≠ [] := fun e => by
  have := congrArg List.length e
  rw [List.length_drop, ← hsz] at this
  simp at this
  omega
 have hv : ¬ ((Go.Lib.decodeL (t.data.toList.drop p)).1 = 65533 ∧ (Go.Lib.decodeL (t.data.toList.drop p)).2 = 1) := by
  rw [Go.Lib.decodeL_drop]
  omega
 have he := Go.Lib.encode_decode _ hne hv
 have hr : RuneOk ((Go.Lib.decodeL (t.data.toList.drop p)).1 : Int) := by
  revert hv
  rw [Go.Lib.decodeL_N]
  intro hv
  have k0 := ((t.data.toList.drop p).getD 0 0).toNat_lt
  have k1 := ((t.data.toList.drop p).getD 1 0).toNat_lt
  have k2 := ((t.data.toList.drop p).getD 2 0).toNat_lt
  have k3 := ((t.data.toList.drop p).getD 3 0).toNat_lt
  revert hv
  rcases Go.Lib.decodeN_shape (t.data.toList.drop p).length ((t.data.toList.drop p).getD 0 0).toNat ((t.data.toList.drop p).getD 1 0).toNat ((t.data.toList.drop p).getD 2 0).toNat ((t.data.toList.drop p).getD 3 0).toNat with ⟨c, e⟩ | ⟨c1, c2, c3, cv, e⟩ | ⟨c1, c2, c3, c4, cv, cs, e⟩ | ⟨c1, c2, c3, c4, c5, cv, cw, e⟩ | e
  all_goals (rw [e]; intro hv; dsimp only at hv ⊢; unfold RuneOk)
  ·omega
  ·omega
  ·omega
  ·omega
  ·exact absurd ⟨rfl, rfl⟩ hv
 have hl := enc_list _ hr
 rw [Go.Lib.decodeL_drop] at he hr hl
 refine ⟨hr, ?_⟩
 rw [Go.Lib.toList_data, hl, he, Go.Lib.toList_data, Go.Lib.extract_data, show ((p : Int) + ((Go.Utf8.decode t p).2 : Int)).toNat = p + (Go.Utf8.decode t p).2 by omega, show p + (Go.Utf8.decode t p).2 - p = (Go.Utf8.decode t p).2 by omega]
theorem implText_f (n : Int) : (RuneOk n ∧ impl_SignText.f n = some (Utf8.encode n)) ∨ (¬ RuneOk n ∧ impl_SignText.f n = some (⟨#[]⟩ : ByteArray)) := by
 have hh : ∀ lo hi, impl_SignText.has n lo hi = (decide (lo ≤ n) && decide (n ≤ hi)) := fun _ _ => rfl
 unfold impl_SignText.f RuneOk
 by_cases h0 : 0 ≤ n ∧ n ≤ 1114111
 ·by_cases h1 : 55296 ≤ n ∧ n ≤ 57343
  ·exact .inr ⟨by omega, by rw [hh, hh, if_pos (by simp; omega), if_pos (by simp; omega)]⟩
  ·exact .inl ⟨by omega, by rw [hh, hh, if_pos (by simp; omega), if_neg (by simp; omega)]⟩
 ·exact .inr ⟨by omega, by rw [hh, if_neg (by simp; omega)]⟩
/-- What is told last: the number's own bytes, read again. -/
def tailS (n : Int) (s : ByteArray) (q : Int × Int × Bool) : Option Bool := (if s.toList = ([] : List UInt8) then (if q.2.2 = true then (if q.1 = n then (some (q.2.1 == (s.size : Int))) else (some false)) else (if n < 0 then (some true) else (if n > 1114111 then (some true) else (if n ≥ 55296 then (if n ≤ 57343 then (some true) else (some false)) else (some false))))) else (if q.2.2 = true then (if q.1 = n then (some (q.2.1 == (s.size : Int))) else (some false)) else (some false)))
theorem em : (⟨#[]⟩ : ByteArray).toList = [] := by rw [Go.Lib.toList_data]
theorem tail_ok (n : Int) (s : ByteArray) (h : (RuneOk n ∧ s = Utf8.encode n) ∨ (¬ RuneOk n ∧ s = (⟨#[]⟩ : ByteArray))) : tailS n s (sgn s 0) = some true := by
 rcases h with ⟨hn, rfl⟩ | ⟨hn, rfl⟩
 ·have hne : ¬ (Utf8.encode n).toList = ([] : List UInt8) := fun e => by
   rw [Go.Lib.toList_data, enc_list n hn] at e
   have := (enc_len n hn).1.2
   rw [e] at this
   simp at this
  unfold tailS
  rw [sgn_enc n hn, if_neg hne, if_pos rfl, if_pos rfl]
  simp
 ·have hs : sgn (⟨#[]⟩ : ByteArray) 0 = (0, 0, false) := by
   unfold sgn
   rw [if_pos (by right; decide)]
  unfold tailS
  rw [hs, if_pos em, if_neg (by simp)]
  unfold RuneOk at hn
  by_cases c1 : n < 0
  ·rw [if_pos c1]
  rw [if_neg c1]
  by_cases c2 : n > 1114111
  ·rw [if_pos c2]
  rw [if_neg c2, if_pos (by omega), if_pos (by omega)]
theorem law (b : List Int) : Ev (fun k => laws_FnSigns.f k b) true := by
 by_cases hb : (b.length : Int) > 1048576
 ·exact Ev.congr (fun k => by simp only [laws_FnSigns.f, laws_big.f]; rw [Option.bind_some, if_pos (by simpa using hb)]) (Ev.now _)
 obtain ⟨n, en⟩ := drawSignText_f b (by omega)
 obtain ⟨⟨t, i⟩, et, t1⟩ := drawSignAt_f b (by omega)
 obtain ⟨s, es, is⟩ := SignText_f n
 have hs : (RuneOk n ∧ s = Utf8.encode n) ∨ (¬ RuneOk n ∧ s = (⟨#[]⟩ : ByteArray)) := by
  rcases implText_f n with ⟨h1, h2⟩ | ⟨h1, h2⟩
  ·exact .inl ⟨h1, Option.some.inj (is.symm.trans h2)⟩
  ·exact .inr ⟨h1, Option.some.inj (is.symm.trans h2)⟩
 have hsz : s.size ≤ 16777216 := by
  rcases hs with ⟨h1, rfl⟩ | ⟨h1, rfl⟩
  ·have h2 := (enc_len n h1).1.1
   have h3 := (Go.Lib.encodeRuneZ_length n).2
   have h4 : (Go.Lib.encodeRune n).length = (Go.Lib.encodeRuneZ n).length := by simp [Go.Lib.encodeRune]
   omega
  ·decide
 have ht : t.size ≤ 16777216 := by dsimp only at t1; omega
 have hend := tail_ok n s hs
 refine Ev.congr (fun k => by simp only [laws_FnSigns.f, laws_big.f]; rw [Option.bind_some, if_neg (by simpa using hb)]) ?_
 refine Ev.bind en ?_
 simp only [is, implSignAt_f s 0 hsz, Option.bind_some]
 refine Ev.bind et ?_
 simp only [implSignAt_f t i ht, Option.bind_some]
 refine Ev.bind (SignAt_ev t i ht) (Ev.bind es ?_)
 by_cases c : (sgn t i).2.2 = true
 ·obtain ⟨g1, g2⟩ := sgn_dec t i c
  obtain ⟨o1, o2, o3, o4⟩ := sgn_ok t i c
  have hx : impl_SignText.f (sgn t i).1 = some (Utf8.encode (sgn t i).1) := by
   rcases implText_f (sgn t i).1 with ⟨_, h2⟩ | ⟨h1, _⟩
   ·exact h2
   ·exact absurd g1 h1
  refine Ev.congr (fun k => ?_) (Ev.now true)
  rw [if_pos rfl, if_pos rfl, if_pos rfl, if_neg (by simp), if_pos c, hx, Option.bind_some, if_pos o1, if_pos (by omega), if_pos o4, if_pos g2]
  exact hend
 ·refine Ev.congr (fun k => ?_) (Ev.now true)
  rw [if_pos rfl, if_pos rfl, if_pos rfl, if_neg (by simp), if_neg c]
  exact hend
theorem FnSigns : laws_FnSigns.Pure := fun b _ => Ev.rounds (law b)

end FnSigns_
theorem FnSigns : laws_FnSigns.Pure := FnSigns_.FnSigns
end Go.Proofs.YtehlkajccnmddaaDoor.Pure
