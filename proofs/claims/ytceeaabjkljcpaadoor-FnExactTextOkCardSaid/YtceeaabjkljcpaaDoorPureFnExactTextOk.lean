/- The program's TextOk and the reference's (its loop over a text's signs) answer alike, at every text.
Conditions: none. -/
import Derived.Test.YtceeaabjkljcpaaDoorSaidFnExactTextOk
import Derived.Lib.RuneCountTail
import Derived.Lib.DecodeN
import Derived.Shelf.Unicode.DecodeSlow
namespace Go.Proofs.YtceeaabjkljcpaaDoor.Pure
open Go.RowKit Go.Proofs.YtceeaabjkljcpaaDoor.PZ Go.Proofs.YtceeaabjkljcpaaDoorW.PrintWords Go.Proofs.YtceeaabjkljcpaaDoorW.PrintLast
set_option linter.unusedVariables false
set_option linter.unusedSimpArgs false

namespace FnExactTextOk_
theorem w64 {i : Int} (h0 : -9223372036854775808 ≤ i) (h1 : i ≤ 9223372036854775807) : wrap64 i = i := by unfold wrap64; omega
def inR (n : Int) (p : Int × Int) : Bool := decide (p.1 ≤ n) && decide (n ≤ p.2)
theorem l1In_f (n lo hi : Int) : spec_l1In.f n lo hi = some (inR n (lo, hi)) := by
  unfold spec_l1In.f inR
  by_cases h : n ≥ lo
  · rw [if_pos h]
    simp [h]
  · rw [if_neg h]
    have : ¬ lo ≤ n := h
    simp [this]
theorem IsSign_f (n : Int) : spec_IsSign.f n = some (impl_IsSign.l.any (inR n)) := by
  unfold spec_IsSign.f
  simp only [l1In_f, Option.bind_some]
  have e : impl_IsSign.l.any (inR n) = (inR n (9, 10) || (inR n (13, 13) || (inR n (32, 55295) || (inR n (57344, 65533) || (inR n (65536, 1114111) || false))))) := rfl
  rw [e]
  have h1 : inR n (9, 10) = decide (n = 9 ∨ n = 10) := by
    unfold inR
    rw [Bool.eq_iff_iff]
    simp
    omega
  have h2 : inR n (13, 13) = decide (n = 13) := by
    unfold inR
    rw [Bool.eq_iff_iff]
    simp
    omega
  rw [h1, h2]
  by_cases c1 : n = 9
  · simp [c1]
  by_cases c2 : n = 10
  · simp [c2]
  by_cases c3 : n = 13
  · simp [c3]
  rw [if_neg c1, if_neg c2, if_neg c3]
  simp only [c1, c2, c3, or_self, decide_false, Bool.false_or, Bool.or_false]
  cases inR n (32, 55295) <;> cases inR n (57344, 65533) <;> simp
theorem bt_lt (s : ByteArray) (i : Int) : 0 ≤ bt s i ∧ bt s i < 256 := by
  unfold bt
  split
  · have := (s[i.toNat]).toNat_lt
    omega
  · omega
theorem get_bt (s : ByteArray) (i : Nat) : ((s.get! i).toNat : Int) = bt s (i : Int) := by
  unfold bt
  by_cases h : i < s.size
  · rw [dif_pos (by simpa using h), Go.Proofs.Utf8W.get!_of_lt s i h]
    simp
  · rw [dif_neg (by simpa using h)]
    rw [← Go.Lib.getD_get!', List.getD_eq_getElem?_getD, List.getElem?_eq_none (by rw [Array.length_toList]; exact Nat.le_of_not_lt h)]
    rfl
set_option maxRecDepth 100000 in
theorem and31 : ∀ x : Fin 256, Go.bits .and .i64 ((x.val : Nat) : Int) 31 = ((x.val % 32 : Nat) : Int) := by decide
set_option maxRecDepth 100000 in
theorem and15 : ∀ x : Fin 256, Go.bits .and .i64 ((x.val : Nat) : Int) 15 = ((x.val % 16 : Nat) : Int) := by decide
set_option maxRecDepth 100000 in
theorem and7 : ∀ x : Fin 256, Go.bits .and .i64 ((x.val : Nat) : Int) 7 = ((x.val % 8 : Nat) : Int) := by decide
theorem band31 (s : ByteArray) (i : Int) : Go.bits .and .i64 (bt s i) 31 = bt s i % 32 := by
  have h := bt_lt s i
  have := and31 ⟨(bt s i).toNat, by omega⟩
  simp only [Int.toNat_of_nonneg h.1] at this
  rw [this]; omega
theorem band15 (s : ByteArray) (i : Int) : Go.bits .and .i64 (bt s i) 15 = bt s i % 16 := by
  have h := bt_lt s i
  have := and15 ⟨(bt s i).toNat, by omega⟩
  simp only [Int.toNat_of_nonneg h.1] at this
  rw [this]; omega
theorem band7 (s : ByteArray) (i : Int) : Go.bits .and .i64 (bt s i) 7 = bt s i % 8 := by
  have h := bt_lt s i
  have := and7 ⟨(bt s i).toNat, by omega⟩
  simp only [Int.toNat_of_nonneg h.1] at this
  rw [this]; omega
/-- The sign at a place. -/
def sgn (s : ByteArray) (i : Int) : Int × Int × Bool :=
  if i < 0 ∨ (s.size : Int) ≤ i then (0, 0, false)
  else if ((Go.Utf8.decode s i.toNat).1 : Int) = 65533 ∧ ((Go.Utf8.decode s i.toNat).2 : Int) ≤ 1 then (0, 0, false)
  else (((Go.Utf8.decode s i.toNat).1 : Int), i + ((Go.Utf8.decode s i.toNat).2 : Int), true)
theorem dec_le (s : ByteArray) (i : Nat) : (Go.Utf8.decode s i).1 ≤ 1114111 ∧ 1 ≤ (Go.Utf8.decode s i).2 ∧ (Go.Utf8.decode s i).2 ≤ 4 := by
  rw [Go.Lib.decode_at]
  have h0 := (s.get! i).toNat_lt
  unfold Go.Lib.decodeN
  repeat' split
  all_goals (refine ⟨?_, ?_, ?_⟩ <;> simp only <;> omega)
theorem implSignAt_f (s : ByteArray) (i : Int) (hs : s.size ≤ 1048576) : impl_SignAt.f s i = some (sgn s i) := by
  unfold impl_SignAt.f impl_in.f sgn
  rw [w64 (by omega) (by omega)]
  by_cases h0 : i ≥ 0
  · rw [if_pos h0]
    by_cases h1 : i ≤ (s.size : Int) - 1
    · have hd := dec_le s i.toNat
      rw [if_neg (by omega : ¬ (i < 0 ∨ (s.size : Int) ≤ i))]
      simp only [h1, decide_true, Option.bind_some, if_true]
      rw [if_pos (by omega : (0 : Int) ≤ i), if_pos (by omega : i ≤ (s.size : Int))]
      have hdg : Go.Lib.decodeGo (s.extract i.toNat s.size) = Go.Utf8.decode s i.toNat := by
        unfold Go.Lib.decodeGo
        rw [Go.Lib.tail_size, if_neg (by omega), Go.Lib.tail_decode]
        rfl
      simp only [utf8_DecodeRuneInString.f, hdg, Option.bind_some]
      generalize hD : Go.Utf8.decode s i.toNat = d at hd ⊢
      rw [w64 (by omega) (by omega), w64 (by omega) (by omega)]
      by_cases c0 : (d.1 : Int) = 65533
      · rw [if_pos c0]
        by_cases c1 : (d.2 : Int) ≤ 1
        · rw [if_pos c1, if_pos ⟨c0, c1⟩]
        · rw [if_neg c1, if_neg (fun h => c1 h.2)]
      · rw [if_neg c0, if_neg (fun h => c0 h.1)]
    · rw [if_pos (by omega : i < 0 ∨ (s.size : Int) ≤ i)]
      simp [h1]
  · rw [if_neg h0, if_pos (by omega : i < 0 ∨ (s.size : Int) ≤ i)]
    rfl
theorem l0_step (k : Nat) (s : ByteArray) (i w lo c j : Int) (hs : s.size ≤ 1048576) (h0 : 0 ≤ i + j) (h1 : i + j < s.size) (hj : j ≤ w) (hj0 : 0 ≤ j) (hw : w ≤ 9) (hc0 : 0 ≤ c) (hc1 : c ≤ 100000000) :
    spec_SignAt.l0 (k + 1) s i w lo c j = if bt s (i + j) < 128 ∨ 191 < bt s (i + j) then some (0, 0, false) else spec_SignAt.l0 k s i w lo (c * 64 + bt s (i + j) - 128) (j + 1) := by
  have hb := bt_lt s (i + j)
  rw [spec_SignAt.l0, if_pos hj, w64 (i := i + j) (by omega) (by omega), if_pos h0, if_pos h1, w64 (i := bt s (i + j)) (by omega) (by omega),
    w64 (i := c * 64) (by omega) (by omega), w64 (i := c * 64 + bt s (i + j)) (by omega) (by omega), w64 (i := c * 64 + bt s (i + j) - 128) (by omega) (by omega), w64 (i := j + 1) (by omega) (by omega)]
  by_cases c0 : bt s (i + j) < 128
  · rw [if_pos c0, if_pos (.inl c0)]
  · rw [if_neg c0]
    by_cases c1 : bt s (i + j) > 191
    · rw [if_pos c1, if_pos (.inr c1)]
    · rw [if_neg c1, if_neg (by omega)]
theorem l0_end (k : Nat) (s : ByteArray) (i w lo c j : Int) (h0 : 0 ≤ i) (h1 : i ≤ 1048576) (hj : w < j) (hw0 : 0 ≤ w) (hw : w ≤ 9) :
    spec_SignAt.l0 (k + 1) s i w lo c j = some (if c < lo ∨ 1114111 < c ∨ (55296 ≤ c ∧ c ≤ 57343) then (0, 0, false) else (c, i + 1 + w, true)) := by
  rw [spec_SignAt.l0, if_neg (by omega)]
  by_cases c0 : c < lo
  · rw [if_pos c0, if_pos (.inl c0)]
  rw [if_neg c0]
  by_cases c1 : c > 1114111
  · rw [if_pos c1, if_pos (.inr (.inl c1))]
  rw [if_neg c1, w64 (i := i + 1) (by omega) (by omega), w64 (i := i + 1 + w) (by omega) (by omega)]
  unfold spec_l1In.f
  by_cases c2 : c ≥ 55296
  · rw [if_pos c2]
    by_cases c3 : c ≤ 57343
    · rw [decide_eq_true c3, Option.bind_some, if_pos rfl, if_pos (.inr (.inr ⟨c2, c3⟩))]
    · rw [decide_eq_false c3, Option.bind_some, if_neg (by decide), if_neg (by omega)]
  · rw [if_neg c2]
    simp only [Option.bind_some]
    rw [if_neg (by decide), if_neg (by omega)]
set_option maxHeartbeats 4000000 in
theorem specSignAt_f (k : Nat) (s : ByteArray) (i : Int) (hs : s.size ≤ 1048576) : spec_SignAt.f (k + 12) s i = some (sgn s i) := by
  unfold spec_SignAt.f sgn
  by_cases g0 : i < 0
  · rw [if_pos g0, if_pos (.inl g0), spec_SignAt.j0, if_pos rfl]
  rw [if_neg g0]
  by_cases g1 : i ≥ (s.size : Int)
  · rw [if_pos (.inr g1), spec_SignAt.j0, if_pos (by simpa using g1)]
  rw [if_neg (by omega : ¬ (i < 0 ∨ (s.size : Int) ≤ i)), spec_SignAt.j0, if_neg (by simpa using g1), if_pos (by omega : 0 ≤ i), if_pos (by omega : i < (s.size : Int))]
  have hb0 := bt_lt s i
  have hb1 := bt_lt s (i + 1)
  have hb2 := bt_lt s (i + 2)
  have hb3 := bt_lt s (i + 3)
  have hi : i = ((i.toNat : Nat) : Int) := by omega
  have e0 := get_bt s i.toNat
  have e1 := get_bt s (i.toNat + 1)
  have e2 := get_bt s (i.toNat + 2)
  have e3 := get_bt s (i.toNat + 3)
  rw [show ((i.toNat : Nat) : Int) = i by omega] at e0
  rw [show ((i.toNat + 1 : Nat) : Int) = i + 1 by omega] at e1
  rw [show ((i.toNat + 2 : Nat) : Int) = i + 2 by omega] at e2
  rw [show ((i.toNat + 3 : Nat) : Int) = i + 3 by omega] at e3
  have hd := Go.Lib.decode_at s i.toNat
  generalize Go.Utf8.decode s i.toNat = d at hd ⊢
  obtain ⟨d1, d2⟩ := d
  generalize s.get! i.toNat = B0 at hd e0
  generalize s.get! (i.toNat + 1) = B1 at hd e1
  generalize s.get! (i.toNat + 2) = B2 at hd e2
  generalize s.get! (i.toNat + 3) = B3 at hd e3
  simp only
  rw [w64 (i := bt s i) (by omega) (by omega), w64 (i := i + 1) (by omega) (by omega)]
  by_cases c0 : bt s i < 128
  · rw [if_pos c0]
    unfold Go.Lib.decodeN at hd
    rw [if_pos (by omega)] at hd
    obtain ⟨rfl, rfl⟩ := Prod.mk.inj hd
    rw [if_neg (by omega), e0]
    rfl
  rw [if_neg c0]
  by_cases c1 : bt s i ≥ 192
  · rw [if_pos c1]
    by_cases c2 : bt s i < 224
    · rw [spec_SignAt.j1, if_pos (by simpa using c2), band31, spec_SignAt.j3, w64 (i := (s.size : Int) - 1) (by omega) (by omega), w64 (i := (s.size : Int) - 1 - 1) (by omega) (by omega)]
      have hE : (if i > (s.size : Int) - 1 - 1 then some (0, 0, false) else spec_SignAt.l0 (k + 9) s i 1 128 (bt s i % 32) 1) = (if i > (s.size : Int) - 2 then some (0, 0, false) else (if bt s (i + 1) < 128 ∨ 191 < bt s (i + 1) then some (0, 0, false) else some (if (bt s i % 32) * 64 + bt s (i + 1) - 128 < 128 ∨ 1114111 < (bt s i % 32) * 64 + bt s (i + 1) - 128 ∨ (55296 ≤ (bt s i % 32) * 64 + bt s (i + 1) - 128 ∧ (bt s i % 32) * 64 + bt s (i + 1) - 128 ≤ 57343) then (0, 0, false) else ((bt s i % 32) * 64 + bt s (i + 1) - 128, i + 1 + 1, true)))) := by
        by_cases t0 : i > (s.size : Int) - 1 - 1
        · rw [if_pos t0, if_pos (by omega)]
        rw [if_neg t0, if_neg (by omega), l0_step (k + 8) s i 1 128 _ 1 hs (by omega) (by omega) (by omega) (by omega) (by omega) (by omega) (by omega)]
        by_cases t1 : bt s (i + 1) < 128 ∨ 191 < bt s (i + 1)
        · rw [if_pos t1, if_pos t1]
        rw [if_neg t1, if_neg t1, l0_end (k + 7) s i 1 128 _ _ (by omega) (by omega) (by omega) (by omega) (by omega)]
      rw [hE]
      clear hE
      generalize bt s i = b0 at *
      generalize bt s (i + 1) = b1 at *
      generalize bt s (i + 2) = b2 at *
      generalize bt s (i + 3) = b3 at *
      unfold Go.Lib.decodeN at hd
      repeat' split at hd
      all_goals (simp only [Prod.mk.injEq] at hd; obtain ⟨rfl, rfl⟩ := hd; repeat' split)
      all_goals first | rfl | (exfalso; omega) | (simp only [Option.some.injEq, Prod.mk.injEq]; refine ⟨?_, ?_, ?_⟩ <;> first | omega | trivial | rfl)
    rw [spec_SignAt.j1, if_neg (by simpa using c2)]
    rw [if_pos (by omega : bt s i ≥ 224)]
    by_cases c3 : bt s i < 240
    · rw [spec_SignAt.j2, if_pos (by simpa using c3), band15, spec_SignAt.j3, w64 (i := (s.size : Int) - 1) (by omega) (by omega), w64 (i := (s.size : Int) - 1 - 2) (by omega) (by omega)]
      have hE : (if i > (s.size : Int) - 1 - 2 then some (0, 0, false) else spec_SignAt.l0 (k + 8) s i 2 2048 (bt s i % 16) 1) = (if i > (s.size : Int) - 3 then some (0, 0, false) else (if bt s (i + 1) < 128 ∨ 191 < bt s (i + 1) then some (0, 0, false) else (if bt s (i + 2) < 128 ∨ 191 < bt s (i + 2) then some (0, 0, false) else some (if ((bt s i % 16) * 64 + bt s (i + 1) - 128) * 64 + bt s (i + 2) - 128 < 2048 ∨ 1114111 < ((bt s i % 16) * 64 + bt s (i + 1) - 128) * 64 + bt s (i + 2) - 128 ∨ (55296 ≤ ((bt s i % 16) * 64 + bt s (i + 1) - 128) * 64 + bt s (i + 2) - 128 ∧ ((bt s i % 16) * 64 + bt s (i + 1) - 128) * 64 + bt s (i + 2) - 128 ≤ 57343) then (0, 0, false) else (((bt s i % 16) * 64 + bt s (i + 1) - 128) * 64 + bt s (i + 2) - 128, i + 1 + 2, true))))) := by
        by_cases t0 : i > (s.size : Int) - 1 - 2
        · rw [if_pos t0, if_pos (by omega)]
        rw [if_neg t0, if_neg (by omega), l0_step (k + 7) s i 2 2048 _ 1 hs (by omega) (by omega) (by omega) (by omega) (by omega) (by omega) (by omega)]
        by_cases t1 : bt s (i + 1) < 128 ∨ 191 < bt s (i + 1)
        · rw [if_pos t1, if_pos t1]
        rw [if_neg t1, if_neg t1, show (1 + 1 : Int) = 2 from rfl, l0_step (k + 6) s i 2 2048 _ 2 hs (by omega) (by omega) (by omega) (by omega) (by omega) (by omega) (by omega)]
        by_cases t2 : bt s (i + 2) < 128 ∨ 191 < bt s (i + 2)
        · rw [if_pos t2, if_pos t2]
        rw [if_neg t2, if_neg t2, l0_end (k + 5) s i 2 2048 _ _ (by omega) (by omega) (by omega) (by omega) (by omega)]
      rw [hE]
      clear hE
      generalize bt s i = b0 at *
      generalize bt s (i + 1) = b1 at *
      generalize bt s (i + 2) = b2 at *
      generalize bt s (i + 3) = b3 at *
      unfold Go.Lib.decodeN at hd
      repeat' split at hd
      all_goals (simp only [Prod.mk.injEq] at hd; obtain ⟨rfl, rfl⟩ := hd; repeat' split)
      all_goals first | rfl | (exfalso; omega) | (simp only [Option.some.injEq, Prod.mk.injEq]; refine ⟨?_, ?_, ?_⟩ <;> first | omega | trivial | rfl)
    rw [spec_SignAt.j2, if_neg (by simpa using c3), if_pos (by omega : bt s i ≥ 240)]
    by_cases c4 : bt s i < 248
    · rw [if_pos c4, band7, spec_SignAt.j3, w64 (i := (s.size : Int) - 1) (by omega) (by omega), w64 (i := (s.size : Int) - 1 - 3) (by omega) (by omega)]
      have hE : (if i > (s.size : Int) - 1 - 3 then some (0, 0, false) else spec_SignAt.l0 (k + 8) s i 3 65536 (bt s i % 8) 1) = (if i > (s.size : Int) - 4 then some (0, 0, false) else (if bt s (i + 1) < 128 ∨ 191 < bt s (i + 1) then some (0, 0, false) else (if bt s (i + 2) < 128 ∨ 191 < bt s (i + 2) then some (0, 0, false) else (if bt s (i + 3) < 128 ∨ 191 < bt s (i + 3) then some (0, 0, false) else some (if (((bt s i % 8) * 64 + bt s (i + 1) - 128) * 64 + bt s (i + 2) - 128) * 64 + bt s (i + 3) - 128 < 65536 ∨ 1114111 < (((bt s i % 8) * 64 + bt s (i + 1) - 128) * 64 + bt s (i + 2) - 128) * 64 + bt s (i + 3) - 128 ∨ (55296 ≤ (((bt s i % 8) * 64 + bt s (i + 1) - 128) * 64 + bt s (i + 2) - 128) * 64 + bt s (i + 3) - 128 ∧ (((bt s i % 8) * 64 + bt s (i + 1) - 128) * 64 + bt s (i + 2) - 128) * 64 + bt s (i + 3) - 128 ≤ 57343) then (0, 0, false) else ((((bt s i % 8) * 64 + bt s (i + 1) - 128) * 64 + bt s (i + 2) - 128) * 64 + bt s (i + 3) - 128, i + 1 + 3, true)))))) := by
        by_cases t0 : i > (s.size : Int) - 1 - 3
        · rw [if_pos t0, if_pos (by omega)]
        rw [if_neg t0, if_neg (by omega), l0_step (k + 7) s i 3 65536 _ 1 hs (by omega) (by omega) (by omega) (by omega) (by omega) (by omega) (by omega)]
        by_cases t1 : bt s (i + 1) < 128 ∨ 191 < bt s (i + 1)
        · rw [if_pos t1, if_pos t1]
        rw [if_neg t1, if_neg t1, show (1 + 1 : Int) = 2 from rfl, l0_step (k + 6) s i 3 65536 _ 2 hs (by omega) (by omega) (by omega) (by omega) (by omega) (by omega) (by omega)]
        by_cases t2 : bt s (i + 2) < 128 ∨ 191 < bt s (i + 2)
        · rw [if_pos t2, if_pos t2]
        rw [if_neg t2, if_neg t2, show (2 + 1 : Int) = 3 from rfl, l0_step (k + 5) s i 3 65536 _ 3 hs (by omega) (by omega) (by omega) (by omega) (by omega) (by omega) (by omega)]
        by_cases t3 : bt s (i + 3) < 128 ∨ 191 < bt s (i + 3)
        · rw [if_pos t3, if_pos t3]
        rw [if_neg t3, if_neg t3, l0_end (k + 4) s i 3 65536 _ _ (by omega) (by omega) (by omega) (by omega) (by omega)]
      rw [hE]
      clear hE
      generalize bt s i = b0 at *
      generalize bt s (i + 1) = b1 at *
      generalize bt s (i + 2) = b2 at *
      generalize bt s (i + 3) = b3 at *
      unfold Go.Lib.decodeN at hd
      repeat' split at hd
      all_goals (simp only [Prod.mk.injEq] at hd; obtain ⟨rfl, rfl⟩ := hd; repeat' split)
      all_goals first | rfl | (exfalso; omega) | (simp only [Option.some.injEq, Prod.mk.injEq]; refine ⟨?_, ?_, ?_⟩ <;> first | omega | trivial | rfl)
    rw [if_neg c4]
    unfold Go.Lib.decodeN at hd
    rw [if_neg (by omega), if_neg (by omega), if_neg (by omega), if_neg (by omega)] at hd
    obtain ⟨rfl, rfl⟩ := Prod.mk.inj hd
    rfl
  · rw [if_neg c1, spec_SignAt.j1, if_neg (by decide), if_neg (by omega), spec_SignAt.j2, if_neg (by decide), if_neg (by omega)]
    unfold Go.Lib.decodeN at hd
    rw [if_neg (by omega), if_neg (by omega), if_neg (by omega), if_neg (by omega)] at hd
    obtain ⟨rfl, rfl⟩ := Prod.mk.inj hd
    rfl
theorem SignAt_ev (s : ByteArray) (i : Int) (hs : s.size ≤ 1048576) : Ev (fun k => spec_SignAt.f k s i) (sgn s i) := ⟨12, fun k hk => by
  obtain ⟨m, rfl⟩ : ∃ m, k = m + 12 := ⟨k - 12, by omega⟩
  exact specSignAt_f m s i hs⟩
theorem sgn_ok (s : ByteArray) (i : Int) (h : (sgn s i).2.2 = true) : 0 ≤ i ∧ i < s.size ∧ i < (sgn s i).2.1 ∧ (sgn s i).2.1 ≤ s.size := by
  revert h
  unfold sgn
  by_cases h0 : i < 0 ∨ (s.size : Int) ≤ i
  · rw [if_pos h0]; intro h; exact absurd h (by simp)
  rw [if_neg h0]
  have hd := Go.Lib.decode_at s i.toNat
  have hw := dec_le s i.toNat
  generalize Go.Utf8.decode s i.toNat = d at *
  obtain ⟨d1, d2⟩ := d
  by_cases h1 : (d1 : Int) = 65533 ∧ (d2 : Int) ≤ 1
  · rw [if_pos h1]; intro h; exact absurd h (by simp)
  rw [if_neg h1]
  intro _
  have e : i + (d2 : Int) ≤ s.size := by
    unfold Go.Lib.decodeN at hd
    repeat' split at hd
    all_goals (simp only [Prod.mk.injEq] at hd; obtain ⟨rfl, rfl⟩ := hd; omega)
  simp only at hw
  exact ⟨by omega, by omega, by simp only; omega, e⟩
theorem signs_same (s : ByteArray) (hs : s.size ≤ 600) (d : Nat) : ∀ i : Int, 0 ≤ i → i ≤ s.size → s.size - i.toNat ≤ d → ∃ r, Ev (fun k => spec_l1Signs.l0 k s i) r ∧ Ev (fun k => impl_signsOk.l0 k s i) r := by
  induction d with
  | zero =>
    intro i h0 h1 hd
    refine ⟨true, Ev.step (fun k => ?_) (Ev.now _), Ev.step (fun k => ?_) (Ev.now _)⟩
    · simp only [spec_l1Signs.l0]
      rw [if_neg (by omega), decide_eq_true (by omega)]
      try rfl
    · simp only [impl_signsOk.l0]
      rw [if_neg (by omega)]
      try rfl
  | succ d ih =>
    intro i h0 h1 hd
    by_cases hlt : ¬ i < (s.size : Int)
    · refine ⟨true, Ev.step (fun k => ?_) (Ev.now _), Ev.step (fun k => ?_) (Ev.now _)⟩
      · simp only [spec_l1Signs.l0]
        rw [if_neg (by omega), decide_eq_true (by omega)]
        try rfl
      · simp only [impl_signsOk.l0]
        rw [if_neg (by omega)]
        try rfl
    have hlt : i < (s.size : Int) := by omega
    have hS := SignAt_ev s i (by omega)
    have hI := implSignAt_f s i (by omega)
    have hok := sgn_ok s i
    generalize sgn s i = g at *
    have hs1 : ∀ k, spec_l1Signs.l0 (k + 1) s i = (spec_SignAt.f k s i).bind fun bt114 => (if bt114.2.2 = true then ((spec_IsSign.f bt114.1).bind fun t117 => (if t117 = true then (spec_l1Signs.l0 k s bt114.2.1) else (some false))) else (some false)) := fun k => by
      simp only [spec_l1Signs.l0]
      rw [if_pos hlt]
    have hi1 : ∀ k, impl_signsOk.l0 (k + 1) s i = (if g.2.2 = true then (if impl_IsSign.l.any (inR g.1) = true then (impl_signsOk.l0 k s g.2.1) else (some false)) else (some false)) := fun k => by
      simp only [impl_signsOk.l0]
      rw [if_pos hlt, hI]
      try rfl
    by_cases hg : ¬ g.2.2 = true
    · exact ⟨false, Ev.step hs1 (Ev.bind hS (Ev.congr (fun k => by rw [if_neg hg]) (Ev.now _))), Ev.step hi1 (Ev.congr (fun k => by rw [if_neg hg]) (Ev.now _))⟩
    have hg := Decidable.not_not.1 hg
    obtain ⟨_, _, g1, g2⟩ := hok hg
    cases hq : impl_IsSign.l.any (inR g.1) with
    | false =>
      exact ⟨false, Ev.step hs1 (Ev.bind hS (Ev.congr (fun k => by rw [if_pos hg, IsSign_f, hq]; try rfl) (Ev.now _))), Ev.step hi1 (Ev.congr (fun k => by rw [if_pos hg, hq]; try rfl) (Ev.now _))⟩
    | true =>
      obtain ⟨r, hr1, hr2⟩ := ih g.2.1 (by omega) g2 (by omega)
      exact ⟨r, Ev.step hs1 (Ev.bind hS (Ev.congr (fun k => by rw [if_pos hg, IsSign_f, hq]; try rfl) hr1)), Ev.step hi1 (Ev.congr (fun k => by rw [if_pos hg, hq]; try rfl) hr2)⟩
theorem text_same (s : ByteArray) : ∃ r, Ev (fun k => spec_TextOk.f k s) r ∧ Ev (fun k => impl_TextOk.f k s) r := by
  by_cases h : (s.size : Int) ≤ 600
  · obtain ⟨r, h1, h2⟩ := signs_same s (by omega) s.size 0 (by omega) (by omega) (by omega)
    refine ⟨r, ?_, ?_⟩
    · refine Ev.congr (fun k => by simp only [spec_TextOk.f]; rw [if_pos h]; try rfl) (Ev.bind (g := fun k => spec_l1Signs.l0 k s 0) h1 (Ev.now _))
    · refine Ev.congr (fun k => by simp only [impl_TextOk.f]; rw [if_pos h]; try rfl) (Ev.bind (g := fun k => impl_signsOk.l0 k s 0) h2 (Ev.now _))
  · exact ⟨false, Ev.congr (fun k => by simp only [spec_TextOk.f]; rw [if_neg h]) (Ev.now _), Ev.congr (fun k => by simp only [impl_TextOk.f]; rw [if_neg h]) (Ev.now _)⟩
theorem FnExactTextOk : laws_FnExactTextOk.Pure := by
  intro s _
  by_cases hs : (s.size : Int) > 1048576
  · exact ⟨0, by simp only [laws_FnExactTextOk.f]; rw [if_pos hs]⟩
  obtain ⟨r, h1, h2⟩ := text_same s
  refine Ev.rounds (r := true) ?_
  refine Ev.congr (fun k => by simp only [laws_FnExactTextOk.f]; rw [if_neg hs]) ?_
  refine Ev.bind h1 (Ev.bind h2 ?_)
  exact Ev.congr (fun k => by rw [if_neg (by simp)]) (Ev.now _)

end FnExactTextOk_
theorem FnExactTextOk : laws_FnExactTextOk.Pure := FnExactTextOk_.FnExactTextOk
end Go.Proofs.YtceeaabjkljcpaaDoor.Pure
