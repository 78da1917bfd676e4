/- The program's EntsOk (slices.Contains, slices.IndexFunc) and the reference's loops answer alike, at every list; the list reads as it did.
Conditions: none. -/
import Derived.Test.YtgchgcfjbjopkaaDoorSaidFnExactEntsOk
import Derived.Lib.RuneCountTail
import Derived.Lib.DecodeN
import Derived.Shelf.Unicode.DecodeSlow
import Derived.Lib.Strings
import Derived.Test.YtgchgcfjbjopkaaDoorLists
namespace Go.Proofs.YtgchgcfjbjopkaaDoor.Pure
open Go.RowKit Go.Proofs.YtgchgcfjbjopkaaDoor.PZ Go.Proofs.YtgchgcfjbjopkaaDoorW.PrintWords Go.Proofs.YtgchgcfjbjopkaaDoorW.PrintLast Go.Proofs.YtgchgcfjbjopkaaDoor.Lists
set_option linter.unusedVariables false
set_option linter.unusedSimpArgs false

namespace FnExactEntsOk_
theorem w64 {i : Int} (h0 : -9223372036854775808 ≤ i) (h1 : i ≤ 9223372036854775807) : wrap64 i = i := by unfold wrap64; omega
def inR (n : Int) (p : Int × Int) : Bool := decide (p.1 ≤ n) && decide (n ≤ p.2)
theorem l1In_f (n lo hi : Int) : spec_l1In.f n lo hi = some (inR n (lo, hi)) := by
  unfold spec_l1In.f inR
  by_cases h : n ≥ lo
  · rw [if_pos h]
    simp [h]
  · rw [if_neg h]
    have : ¬ lo ≤ n := h
    simp [this]
theorem IsSign_f (n : Int) : spec_IsSign.f n = some (impl_IsSign.l.any (inR n)) := by
  unfold spec_IsSign.f
  simp only [l1In_f, Option.bind_some]
  have e : impl_IsSign.l.any (inR n) = (inR n (9, 10) || (inR n (13, 13) || (inR n (32, 55295) || (inR n (57344, 65533) || (inR n (65536, 1114111) || false))))) := rfl
  rw [e]
  have h1 : inR n (9, 10) = decide (n = 9 ∨ n = 10) := by
    unfold inR
    rw [Bool.eq_iff_iff]
    simp
    omega
  have h2 : inR n (13, 13) = decide (n = 13) := by
    unfold inR
    rw [Bool.eq_iff_iff]
    simp
    omega
  rw [h1, h2]
  by_cases c1 : n = 9
  · simp [c1]
  by_cases c2 : n = 10
  · simp [c2]
  by_cases c3 : n = 13
  · simp [c3]
  rw [if_neg c1, if_neg c2, if_neg c3]
  simp only [c1, c2, c3, or_self, decide_false, Bool.false_or, Bool.or_false]
  cases inR n (32, 55295) <;> cases inR n (57344, 65533) <;> simp
def flat2 (zs : List (Int × Int)) : List Int := zs.flatMap fun p => [p.1, p.2]
theorem flat2_length (zs : List (Int × Int)) : (flat2 zs).length = 2 * zs.length := by
  induction zs with
  | nil => rfl
  | cons p zs ih => simp only [flat2, List.flatMap_cons, List.length_append, List.length_cons, List.length_nil] at ih ⊢; omega
theorem flat2_get (zs : List (Int × Int)) : ∀ (j : Nat) (p : Int × Int), zs[j]? = some p → (flat2 zs)[2 * j]? = some p.1 ∧ (flat2 zs)[2 * j + 1]? = some p.2 := by
  induction zs with
  | nil => intro j p h; simp at h
  | cons q zs ih =>
    intro j p h
    cases j with
    | zero =>
      simp at h
      subst h
      simp [flat2]
    | succ j =>
      have := ih j p (by simpa using h)
      simp only [flat2, List.flatMap_cons] at this ⊢
      rw [List.getElem?_append_right (by simp; omega), List.getElem?_append_right (by simp; omega)]
      have e1 : 2 * (j + 1) - [q.1, q.2].length = 2 * j := by simp; omega
      have e2 : 2 * (j + 1) + 1 - [q.1, q.2].length = 2 * j + 1 := by simp; omega
      rw [e1, e2]
      exact this
theorem ranges_l (n : Int) (zs : List (Int × Int)) (hz : zs.length ≤ 1000) (d : Nat) : ∀ j : Nat, j ≤ zs.length → zs.length - j = d →
    Ev (fun k => spec_l1Ranges.l0 k n (flat2 zs) ((2 * j : Nat) : Int)) ((zs.drop j).any (inR n)) := by
  have hlen := flat2_length zs
  induction d with
  | zero =>
    intro j hj hd
    have e : zs.drop j = [] := List.drop_eq_nil_of_le (by omega)
    rw [e]
    refine Ev.step (fun k => ?_) (Ev.now _)
    simp only [spec_l1Ranges.l0]
    rw [if_neg (by rw [w64 (by omega) (by omega)]; omega)]
    rfl
  | succ d ih =>
    intro j hj hd
    have hlt : j < zs.length := by omega
    obtain ⟨g1, g2⟩ := flat2_get zs j zs[j] (List.getElem?_eq_getElem hlt)
    have r1 : rd (flat2 zs) ((2 * j : Nat) : Int) = zs[j].1 := by simp only [rd, Int.toNat_natCast, List.getD_eq_getElem?_getD, g1, Option.getD_some]
    have r2 : rd (flat2 zs) (((2 * j : Nat) : Int) + 1) = zs[j].2 := by
      have e : (((2 * j : Nat) : Int) + 1).toNat = 2 * j + 1 := by omega
      simp only [rd, e, List.getD_eq_getElem?_getD, g2, Option.getD_some]
    have e : zs.drop j = zs[j] :: zs.drop (j + 1) := List.drop_eq_getElem_cons hlt
    rw [e, List.any_cons]
    have hs : ∀ k, spec_l1Ranges.l0 (k + 1) n (flat2 zs) ((2 * j : Nat) : Int) = if inR n zs[j] = true then some true else spec_l1Ranges.l0 k n (flat2 zs) ((2 * (j + 1) : Nat) : Int) := fun k => by
      simp only [spec_l1Ranges.l0]
      rw [w64 (by omega) (by omega), if_pos (by omega), if_pos (by omega), if_pos (by omega), if_pos (by omega), r1, r2, l1In_f]
      simp only [Option.bind_some]
      rw [w64 (by omega) (by omega)]
      rfl
    cases hq : inR n zs[j] with
    | true =>
      refine Ev.step (fun k => ?_) (Ev.now _)
      rw [hs, hq, if_pos rfl]
      rfl
    | false =>
      refine Ev.step (fun k => ?_) (ih (j + 1) (by omega) (by omega))
      rw [hs, hq, if_neg (by simp)]
theorem ranges_f (n : Int) (zs : List (Int × Int)) (hz : zs.length ≤ 1000) (l : List Int) (hl : l = flat2 zs) : Ev (fun k => spec_l1Ranges.f k n l) (zs.any (inR n)) := by
  subst hl
  exact Ev.congr (fun k => by simp [spec_l1Ranges.f]) (ranges_l n zs hz zs.length 0 (by omega) (by omega))
theorem IsStart_f (n : Int) : Ev (fun k => spec_IsStart.f k n) (impl_IsStart.l.any (inR n)) := by
  refine Ev.congr (g := fun k => spec_IsStart.f k n) (f := fun k => (spec_l1Ranges.f k n (flat2 impl_IsStart.l)).bind fun t => some t) (fun k => ?_) (Ev.bind (ranges_f n impl_IsStart.l (by decide) _ rfl) (Ev.now _))
  rfl
theorem IsPart_f (n : Int) : Ev (fun k => spec_IsPart.f k n) (impl_IsStart.l.any (inR n) || impl_IsPart.l.any (inR n)) := by
  refine Ev.congr (g := fun k => spec_IsPart.f k n) (f := fun k => (spec_IsStart.f k n).bind fun t => if t = true then some true else (spec_l1Ranges.f k n (flat2 impl_IsPart.l)).bind fun t => some t) (fun k => rfl) (Ev.bind (IsStart_f n) ?_)
  cases impl_IsStart.l.any (inR n) with
  | true => exact Ev.congr (fun k => by rw [if_pos rfl]; rfl) (Ev.now _)
  | false => exact Ev.congr (fun k => by rw [if_neg (by simp)]) (Ev.bind (ranges_f n impl_IsPart.l (by decide) _ rfl) (Ev.now _))
theorem bt_lt (s : ByteArray) (i : Int) : 0 ≤ bt s i ∧ bt s i < 256 := by
  unfold bt
  split
  · have := (s[i.toNat]).toNat_lt
    omega
  · omega
theorem get_bt (s : ByteArray) (i : Nat) : ((s.get! i).toNat : Int) = bt s (i : Int) := by
  unfold bt
  by_cases h : i < s.size
  · rw [dif_pos (by simpa using h), Go.Proofs.Utf8W.get!_of_lt s i h]
    simp
  · rw [dif_neg (by simpa using h)]
    rw [← Go.Lib.getD_get!', List.getD_eq_getElem?_getD, List.getElem?_eq_none (by rw [Array.length_toList]; exact Nat.le_of_not_lt h)]
    rfl
set_option maxRecDepth 100000 in
theorem and31 : ∀ x : Fin 256, Go.bits .and .i64 ((x.val : Nat) : Int) 31 = ((x.val % 32 : Nat) : Int) := by decide
set_option maxRecDepth 100000 in
theorem and15 : ∀ x : Fin 256, Go.bits .and .i64 ((x.val : Nat) : Int) 15 = ((x.val % 16 : Nat) : Int) := by decide
set_option maxRecDepth 100000 in
theorem and7 : ∀ x : Fin 256, Go.bits .and .i64 ((x.val : Nat) : Int) 7 = ((x.val % 8 : Nat) : Int) := by decide
theorem band31 (s : ByteArray) (i : Int) : Go.bits .and .i64 (bt s i) 31 = bt s i % 32 := by
  have h := bt_lt s i
  have := and31 ⟨(bt s i).toNat, by omega⟩
  simp only [Int.toNat_of_nonneg h.1] at this
  rw [this]; omega
theorem band15 (s : ByteArray) (i : Int) : Go.bits .and .i64 (bt s i) 15 = bt s i % 16 := by
  have h := bt_lt s i
  have := and15 ⟨(bt s i).toNat, by omega⟩
  simp only [Int.toNat_of_nonneg h.1] at this
  rw [this]; omega
theorem band7 (s : ByteArray) (i : Int) : Go.bits .and .i64 (bt s i) 7 = bt s i % 8 := by
  have h := bt_lt s i
  have := and7 ⟨(bt s i).toNat, by omega⟩
  simp only [Int.toNat_of_nonneg h.1] at this
  rw [this]; omega
/-- The sign at a place. -/
def sgn (s : ByteArray) (i : Int) : Int × Int × Bool :=
  if i < 0 ∨ (s.size : Int) ≤ i then (0, 0, false)
  else if ((Go.Utf8.decode s i.toNat).1 : Int) = 65533 ∧ ((Go.Utf8.decode s i.toNat).2 : Int) ≤ 1 then (0, 0, false)
  else (((Go.Utf8.decode s i.toNat).1 : Int), i + ((Go.Utf8.decode s i.toNat).2 : Int), true)
theorem dec_le (s : ByteArray) (i : Nat) : (Go.Utf8.decode s i).1 ≤ 1114111 ∧ 1 ≤ (Go.Utf8.decode s i).2 ∧ (Go.Utf8.decode s i).2 ≤ 4 := by
  rw [Go.Lib.decode_at]
  have h0 := (s.get! i).toNat_lt
  unfold Go.Lib.decodeN
  repeat' split
  all_goals (refine ⟨?_, ?_, ?_⟩ <;> simp only <;> omega)
theorem implSignAt_f (s : ByteArray) (i : Int) (hs : s.size ≤ 16777216) : impl_SignAt.f s i = some (sgn s i) := by
  unfold impl_SignAt.f impl_in.f sgn
  rw [w64 (by omega) (by omega)]
  by_cases h0 : i ≥ 0
  · rw [if_pos h0]
    by_cases h1 : i ≤ (s.size : Int) - 1
    · have hd := dec_le s i.toNat
      rw [if_neg (by omega : ¬ (i < 0 ∨ (s.size : Int) ≤ i))]
      simp only [h1, decide_true, Option.bind_some, if_true]
      rw [if_pos (by omega : (0 : Int) ≤ i), if_pos (by omega : i ≤ (s.size : Int))]
      have hdg : Go.Lib.decodeGo (s.extract i.toNat s.size) = Go.Utf8.decode s i.toNat := by
        unfold Go.Lib.decodeGo
        rw [Go.Lib.tail_size, if_neg (by omega), Go.Lib.tail_decode]
        rfl
      simp only [utf8_DecodeRuneInString.f, hdg, Option.bind_some]
      generalize hD : Go.Utf8.decode s i.toNat = d at hd ⊢
      rw [w64 (by omega) (by omega), w64 (by omega) (by omega)]
      by_cases c0 : (d.1 : Int) = 65533
      · rw [if_pos c0]
        by_cases c1 : (d.2 : Int) ≤ 1
        · rw [if_pos c1, if_pos ⟨c0, c1⟩]
        · rw [if_neg c1, if_neg (fun h => c1 h.2)]
      · rw [if_neg c0, if_neg (fun h => c0 h.1)]
    · rw [if_pos (by omega : i < 0 ∨ (s.size : Int) ≤ i)]
      simp [h1]
  · rw [if_neg h0, if_pos (by omega : i < 0 ∨ (s.size : Int) ≤ i)]
    rfl
theorem l0_step (k : Nat) (s : ByteArray) (i w lo c j : Int) (hs : s.size ≤ 16777216) (h0 : 0 ≤ i + j) (h1 : i + j < s.size) (hj : j ≤ w) (hj0 : 0 ≤ j) (hw : w ≤ 9) (hc0 : 0 ≤ c) (hc1 : c ≤ 100000000) :
    spec_SignAt.l0 (k + 1) s i w lo c j = if bt s (i + j) < 128 ∨ 191 < bt s (i + j) then some (0, 0, false) else spec_SignAt.l0 k s i w lo (c * 64 + bt s (i + j) - 128) (j + 1) := by
  have hb := bt_lt s (i + j)
  rw [spec_SignAt.l0, if_pos hj, w64 (i := i + j) (by omega) (by omega), if_pos h0, if_pos h1, w64 (i := bt s (i + j)) (by omega) (by omega),
    w64 (i := c * 64) (by omega) (by omega), w64 (i := c * 64 + bt s (i + j)) (by omega) (by omega), w64 (i := c * 64 + bt s (i + j) - 128) (by omega) (by omega), w64 (i := j + 1) (by omega) (by omega)]
  by_cases c0 : bt s (i + j) < 128
  · rw [if_pos c0, if_pos (.inl c0)]
  · rw [if_neg c0]
    by_cases c1 : bt s (i + j) > 191
    · rw [if_pos c1, if_pos (.inr c1)]
    · rw [if_neg c1, if_neg (by omega)]
theorem l0_end (k : Nat) (s : ByteArray) (i w lo c j : Int) (h0 : 0 ≤ i) (h1 : i ≤ 16777216) (hj : w < j) (hw0 : 0 ≤ w) (hw : w ≤ 9) :
    spec_SignAt.l0 (k + 1) s i w lo c j = some (if c < lo ∨ 1114111 < c ∨ (55296 ≤ c ∧ c ≤ 57343) then (0, 0, false) else (c, i + 1 + w, true)) := by
  rw [spec_SignAt.l0, if_neg (by omega)]
  by_cases c0 : c < lo
  · rw [if_pos c0, if_pos (.inl c0)]
  rw [if_neg c0]
  by_cases c1 : c > 1114111
  · rw [if_pos c1, if_pos (.inr (.inl c1))]
  rw [if_neg c1, w64 (i := i + 1) (by omega) (by omega), w64 (i := i + 1 + w) (by omega) (by omega)]
  unfold spec_l1In.f
  by_cases c2 : c ≥ 55296
  · rw [if_pos c2]
    by_cases c3 : c ≤ 57343
    · rw [decide_eq_true c3, Option.bind_some, if_pos rfl, if_pos (.inr (.inr ⟨c2, c3⟩))]
    · rw [decide_eq_false c3, Option.bind_some, if_neg (by decide), if_neg (by omega)]
  · rw [if_neg c2]
    simp only [Option.bind_some]
    rw [if_neg (by decide), if_neg (by omega)]
set_option maxHeartbeats 4000000 in
theorem specSignAt_f (k : Nat) (s : ByteArray) (i : Int) (hs : s.size ≤ 16777216) : spec_SignAt.f (k + 12) s i = some (sgn s i) := by
  unfold spec_SignAt.f sgn
  by_cases g0 : i < 0
  · rw [if_pos g0, if_pos (.inl g0), spec_SignAt.j0, if_pos rfl]
  rw [if_neg g0]
  by_cases g1 : i ≥ (s.size : Int)
  · rw [if_pos (.inr g1), spec_SignAt.j0, if_pos (by simpa using g1)]
  rw [if_neg (by omega : ¬ (i < 0 ∨ (s.size : Int) ≤ i)), spec_SignAt.j0, if_neg (by simpa using g1), if_pos (by omega : 0 ≤ i), if_pos (by omega : i < (s.size : Int))]
  have hb0 := bt_lt s i
  have hb1 := bt_lt s (i + 1)
  have hb2 := bt_lt s (i + 2)
  have hb3 := bt_lt s (i + 3)
  have hi : i = ((i.toNat : Nat) : Int) := by omega
  have e0 := get_bt s i.toNat
  have e1 := get_bt s (i.toNat + 1)
  have e2 := get_bt s (i.toNat + 2)
  have e3 := get_bt s (i.toNat + 3)
  rw [show ((i.toNat : Nat) : Int) = i by omega] at e0
  rw [show ((i.toNat + 1 : Nat) : Int) = i + 1 by omega] at e1
  rw [show ((i.toNat + 2 : Nat) : Int) = i + 2 by omega] at e2
  rw [show ((i.toNat + 3 : Nat) : Int) = i + 3 by omega] at e3
  have hd := Go.Lib.decode_at s i.toNat
  generalize Go.Utf8.decode s i.toNat = d at hd ⊢
  obtain ⟨d1, d2⟩ := d
  generalize s.get! i.toNat = B0 at hd e0
  generalize s.get! (i.toNat + 1) = B1 at hd e1
  generalize s.get! (i.toNat + 2) = B2 at hd e2
  generalize s.get! (i.toNat + 3) = B3 at hd e3
  simp only
  rw [w64 (i := bt s i) (by omega) (by omega), w64 (i := i + 1) (by omega) (by omega)]
  by_cases c0 : bt s i < 128
  · rw [if_pos c0]
    unfold Go.Lib.decodeN at hd
    rw [if_pos (by omega)] at hd
    obtain ⟨rfl, rfl⟩ := Prod.mk.inj hd
    rw [if_neg (by omega), e0]
    rfl
  rw [if_neg c0]
  by_cases c1 : bt s i ≥ 192
  · rw [if_pos c1]
    by_cases c2 : bt s i < 224
    · rw [spec_SignAt.j1, if_pos (by simpa using c2), band31, spec_SignAt.j3, w64 (i := (s.size : Int) - 1) (by omega) (by omega), w64 (i := (s.size : Int) - 1 - 1) (by omega) (by omega)]
      have hE : (if i > (s.size : Int) - 1 - 1 then some (0, 0, false) else spec_SignAt.l0 (k + 9) s i 1 128 (bt s i % 32) 1) = (if i > (s.size : Int) - 2 then some (0, 0, false) else (if bt s (i + 1) < 128 ∨ 191 < bt s (i + 1) then some (0, 0, false) else some (if (bt s i % 32) * 64 + bt s (i + 1) - 128 < 128 ∨ 1114111 < (bt s i % 32) * 64 + bt s (i + 1) - 128 ∨ (55296 ≤ (bt s i % 32) * 64 + bt s (i + 1) - 128 ∧ (bt s i % 32) * 64 + bt s (i + 1) - 128 ≤ 57343) then (0, 0, false) else ((bt s i % 32) * 64 + bt s (i + 1) - 128, i + 1 + 1, true)))) := by
        by_cases t0 : i > (s.size : Int) - 1 - 1
        · rw [if_pos t0, if_pos (by omega)]
        rw [if_neg t0, if_neg (by omega), l0_step (k + 8) s i 1 128 _ 1 hs (by omega) (by omega) (by omega) (by omega) (by omega) (by omega) (by omega)]
        by_cases t1 : bt s (i + 1) < 128 ∨ 191 < bt s (i + 1)
        · rw [if_pos t1, if_pos t1]
        rw [if_neg t1, if_neg t1, l0_end (k + 7) s i 1 128 _ _ (by omega) (by omega) (by omega) (by omega) (by omega)]
      rw [hE]
      clear hE
      generalize bt s i = b0 at *
      generalize bt s (i + 1) = b1 at *
      generalize bt s (i + 2) = b2 at *
      generalize bt s (i + 3) = b3 at *
      unfold Go.Lib.decodeN at hd
      repeat' split at hd
      all_goals (simp only [Prod.mk.injEq] at hd; obtain ⟨rfl, rfl⟩ := hd; repeat' split)
      all_goals first | rfl | (exfalso; omega) | (simp only [Option.some.injEq, Prod.mk.injEq]; refine ⟨?_, ?_, ?_⟩ <;> first | omega | trivial | rfl)
    rw [spec_SignAt.j1, if_neg (by simpa using c2)]
    rw [if_pos (by omega : bt s i ≥ 224)]
    by_cases c3 : bt s i < 240
    · rw [spec_SignAt.j2, if_pos (by simpa using c3), band15, spec_SignAt.j3, w64 (i := (s.size : Int) - 1) (by omega) (by omega), w64 (i := (s.size : Int) - 1 - 2) (by omega) (by omega)]
      have hE : (if i > (s.size : Int) - 1 - 2 then some (0, 0, false) else spec_SignAt.l0 (k + 8) s i 2 2048 (bt s i % 16) 1) = (if i > (s.size : Int) - 3 then some (0, 0, false) else (if bt s (i + 1) < 128 ∨ 191 < bt s (i + 1) then some (0, 0, false) else (if bt s (i + 2) < 128 ∨ 191 < bt s (i + 2) then some (0, 0, false) else some (if ((bt s i % 16) * 64 + bt s (i + 1) - 128) * 64 + bt s (i + 2) - 128 < 2048 ∨ 1114111 < ((bt s i % 16) * 64 + bt s (i + 1) - 128) * 64 + bt s (i + 2) - 128 ∨ (55296 ≤ ((bt s i % 16) * 64 + bt s (i + 1) - 128) * 64 + bt s (i + 2) - 128 ∧ ((bt s i % 16) * 64 + bt s (i + 1) - 128) * 64 + bt s (i + 2) - 128 ≤ 57343) then (0, 0, false) else (((bt s i % 16) * 64 + bt s (i + 1) - 128) * 64 + bt s (i + 2) - 128, i + 1 + 2, true))))) := by
        by_cases t0 : i > (s.size : Int) - 1 - 2
        · rw [if_pos t0, if_pos (by omega)]
        rw [if_neg t0, if_neg (by omega), l0_step (k + 7) s i 2 2048 _ 1 hs (by omega) (by omega) (by omega) (by omega) (by omega) (by omega) (by omega)]
        by_cases t1 : bt s (i + 1) < 128 ∨ 191 < bt s (i + 1)
        · rw [if_pos t1, if_pos t1]
        rw [if_neg t1, if_neg t1, show (1 + 1 : Int) = 2 from rfl, l0_step (k + 6) s i 2 2048 _ 2 hs (by omega) (by omega) (by omega) (by omega) (by omega) (by omega) (by omega)]
        by_cases t2 : bt s (i + 2) < 128 ∨ 191 < bt s (i + 2)
        · rw [if_pos t2, if_pos t2]
        rw [if_neg t2, if_neg t2, l0_end (k + 5) s i 2 2048 _ _ (by omega) (by omega) (by omega) (by omega) (by omega)]
      rw [hE]
      clear hE
      generalize bt s i = b0 at *
      generalize bt s (i + 1) = b1 at *
      generalize bt s (i + 2) = b2 at *
      generalize bt s (i + 3) = b3 at *
      unfold Go.Lib.decodeN at hd
      repeat' split at hd
      all_goals (simp only [Prod.mk.injEq] at hd; obtain ⟨rfl, rfl⟩ := hd; repeat' split)
      all_goals first | rfl | (exfalso; omega) | (simp only [Option.some.injEq, Prod.mk.injEq]; refine ⟨?_, ?_, ?_⟩ <;> first | omega | trivial | rfl)
    rw [spec_SignAt.j2, if_neg (by simpa using c3), if_pos (by omega : bt s i ≥ 240)]
    by_cases c4 : bt s i < 248
    · rw [if_pos c4, band7, spec_SignAt.j3, w64 (i := (s.size : Int) - 1) (by omega) (by omega), w64 (i := (s.size : Int) - 1 - 3) (by omega) (by omega)]
      have hE : (if i > (s.size : Int) - 1 - 3 then some (0, 0, false) else spec_SignAt.l0 (k + 8) s i 3 65536 (bt s i % 8) 1) = (if i > (s.size : Int) - 4 then some (0, 0, false) else (if bt s (i + 1) < 128 ∨ 191 < bt s (i + 1) then some (0, 0, false) else (if bt s (i + 2) < 128 ∨ 191 < bt s (i + 2) then some (0, 0, false) else (if bt s (i + 3) < 128 ∨ 191 < bt s (i + 3) then some (0, 0, false) else some (if (((bt s i % 8) * 64 + bt s (i + 1) - 128) * 64 + bt s (i + 2) - 128) * 64 + bt s (i + 3) - 128 < 65536 ∨ 1114111 < (((bt s i % 8) * 64 + bt s (i + 1) - 128) * 64 + bt s (i + 2) - 128) * 64 + bt s (i + 3) - 128 ∨ (55296 ≤ (((bt s i % 8) * 64 + bt s (i + 1) - 128) * 64 + bt s (i + 2) - 128) * 64 + bt s (i + 3) - 128 ∧ (((bt s i % 8) * 64 + bt s (i + 1) - 128) * 64 + bt s (i + 2) - 128) * 64 + bt s (i + 3) - 128 ≤ 57343) then (0, 0, false) else ((((bt s i % 8) * 64 + bt s (i + 1) - 128) * 64 + bt s (i + 2) - 128) * 64 + bt s (i + 3) - 128, i + 1 + 3, true)))))) := by
        by_cases t0 : i > (s.size : Int) - 1 - 3
        · rw [if_pos t0, if_pos (by omega)]
        rw [if_neg t0, if_neg (by omega), l0_step (k + 7) s i 3 65536 _ 1 hs (by omega) (by omega) (by omega) (by omega) (by omega) (by omega) (by omega)]
        by_cases t1 : bt s (i + 1) < 128 ∨ 191 < bt s (i + 1)
        · rw [if_pos t1, if_pos t1]
        rw [if_neg t1, if_neg t1, show (1 + 1 : Int) = 2 from rfl, l0_step (k + 6) s i 3 65536 _ 2 hs (by omega) (by omega) (by omega) (by omega) (by omega) (by omega) (by omega)]
        by_cases t2 : bt s (i + 2) < 128 ∨ 191 < bt s (i + 2)
        · rw [if_pos t2, if_pos t2]
        rw [if_neg t2, if_neg t2, show (2 + 1 : Int) = 3 from rfl, l0_step (k + 5) s i 3 65536 _ 3 hs (by omega) (by omega) (by omega) (by omega) (by omega) (by omega) (by omega)]
        by_cases t3 : bt s (i + 3) < 128 ∨ 191 < bt s (i + 3)
        · rw [if_pos t3, if_pos t3]
        rw [if_neg t3, if_neg t3, l0_end (k + 4) s i 3 65536 _ _ (by omega) (by omega) (by omega) (by omega) (by omega)]
      rw [hE]
      clear hE
      generalize bt s i = b0 at *
      generalize bt s (i + 1) = b1 at *
      generalize bt s (i + 2) = b2 at *
      generalize bt s (i + 3) = b3 at *
      unfold Go.Lib.decodeN at hd
      repeat' split at hd
      all_goals (simp only [Prod.mk.injEq] at hd; obtain ⟨rfl, rfl⟩ := hd; repeat' split)
      all_goals first | rfl | (exfalso; omega) | (simp only [Option.some.injEq, Prod.mk.injEq]; refine ⟨?_, ?_, ?_⟩ <;> first | omega | trivial | rfl)
    rw [if_neg c4]
    unfold Go.Lib.decodeN at hd
    rw [if_neg (by omega), if_neg (by omega), if_neg (by omega), if_neg (by omega)] at hd
    obtain ⟨rfl, rfl⟩ := Prod.mk.inj hd
    rfl
  · rw [if_neg c1, spec_SignAt.j1, if_neg (by decide), if_neg (by omega), spec_SignAt.j2, if_neg (by decide), if_neg (by omega)]
    unfold Go.Lib.decodeN at hd
    rw [if_neg (by omega), if_neg (by omega), if_neg (by omega), if_neg (by omega)] at hd
    obtain ⟨rfl, rfl⟩ := Prod.mk.inj hd
    rfl
theorem SignAt_ev (s : ByteArray) (i : Int) (hs : s.size ≤ 16777216) : Ev (fun k => spec_SignAt.f k s i) (sgn s i) := ⟨12, fun k hk => by
  obtain ⟨m, rfl⟩ : ∃ m, k = m + 12 := ⟨k - 12, by omega⟩
  exact specSignAt_f m s i hs⟩
theorem sgn_ok (s : ByteArray) (i : Int) (h : (sgn s i).2.2 = true) : 0 ≤ i ∧ i < s.size ∧ i < (sgn s i).2.1 ∧ (sgn s i).2.1 ≤ s.size := by
  revert h
  unfold sgn
  by_cases h0 : i < 0 ∨ (s.size : Int) ≤ i
  · rw [if_pos h0]; intro h; exact absurd h (by simp)
  rw [if_neg h0]
  have hd := Go.Lib.decode_at s i.toNat
  have hw := dec_le s i.toNat
  generalize Go.Utf8.decode s i.toNat = d at *
  obtain ⟨d1, d2⟩ := d
  by_cases h1 : (d1 : Int) = 65533 ∧ (d2 : Int) ≤ 1
  · rw [if_pos h1]; intro h; exact absurd h (by simp)
  rw [if_neg h1]
  intro _
  have e : i + (d2 : Int) ≤ s.size := by
    unfold Go.Lib.decodeN at hd
    repeat' split at hd
    all_goals (simp only [Prod.mk.injEq] at hd; obtain ⟨rfl, rfl⟩ := hd; omega)
  simp only at hw
  exact ⟨by omega, by omega, by simp only; omega, e⟩
theorem signs_same (s : ByteArray) (hs : s.size ≤ 600) (d : Nat) : ∀ i : Int, 0 ≤ i → i ≤ s.size → s.size - i.toNat ≤ d → ∃ r, Ev (fun k => spec_l1Signs.l0 k s i) r ∧ Ev (fun k => impl_signsOk.l0 k s i) r := by
  induction d with
  | zero =>
    intro i h0 h1 hd
    refine ⟨true, Ev.step (fun k => ?_) (Ev.now _), Ev.step (fun k => ?_) (Ev.now _)⟩
    · simp only [spec_l1Signs.l0]
      rw [if_neg (by omega), decide_eq_true (by omega)]
      try rfl
    · simp only [impl_signsOk.l0]
      rw [if_neg (by omega)]
      try rfl
  | succ d ih =>
    intro i h0 h1 hd
    by_cases hlt : ¬ i < (s.size : Int)
    · refine ⟨true, Ev.step (fun k => ?_) (Ev.now _), Ev.step (fun k => ?_) (Ev.now _)⟩
      · simp only [spec_l1Signs.l0]
        rw [if_neg (by omega), decide_eq_true (by omega)]
        try rfl
      · simp only [impl_signsOk.l0]
        rw [if_neg (by omega)]
        try rfl
    have hlt : i < (s.size : Int) := by omega
    have hS := SignAt_ev s i (by omega)
    have hI := implSignAt_f s i (by omega)
    have hok := sgn_ok s i
    generalize sgn s i = g at *
    have hs1 : ∀ k, spec_l1Signs.l0 (k + 1) s i = (spec_SignAt.f k s i).bind fun bt114 => (if bt114.2.2 = true then ((spec_IsSign.f bt114.1).bind fun t117 => (if t117 = true then (spec_l1Signs.l0 k s bt114.2.1) else (some false))) else (some false)) := fun k => by
      simp only [spec_l1Signs.l0]
      rw [if_pos hlt]
    have hi1 : ∀ k, impl_signsOk.l0 (k + 1) s i = (if g.2.2 = true then (if impl_IsSign.l.any (inR g.1) = true then (impl_signsOk.l0 k s g.2.1) else (some false)) else (some false)) := fun k => by
      simp only [impl_signsOk.l0]
      rw [if_pos hlt, hI]
      try rfl
    by_cases hg : ¬ g.2.2 = true
    · exact ⟨false, Ev.step hs1 (Ev.bind hS (Ev.congr (fun k => by rw [if_neg hg]) (Ev.now _))), Ev.step hi1 (Ev.congr (fun k => by rw [if_neg hg]) (Ev.now _))⟩
    have hg := Decidable.not_not.1 hg
    obtain ⟨_, _, g1, g2⟩ := hok hg
    cases hq : impl_IsSign.l.any (inR g.1) with
    | false =>
      exact ⟨false, Ev.step hs1 (Ev.bind hS (Ev.congr (fun k => by rw [if_pos hg, IsSign_f, hq]; try rfl) (Ev.now _))), Ev.step hi1 (Ev.congr (fun k => by rw [if_pos hg, hq]; try rfl) (Ev.now _))⟩
    | true =>
      obtain ⟨r, hr1, hr2⟩ := ih g.2.1 (by omega) g2 (by omega)
      exact ⟨r, Ev.step hs1 (Ev.bind hS (Ev.congr (fun k => by rw [if_pos hg, IsSign_f, hq]; try rfl) hr1)), Ev.step hi1 (Ev.congr (fun k => by rw [if_pos hg, hq]; try rfl) hr2)⟩
theorem text_same (s : ByteArray) : ∃ r, Ev (fun k => spec_TextOk.f k s) r ∧ Ev (fun k => impl_TextOk.f k s) r := by
  by_cases h : (s.size : Int) ≤ 600
  · obtain ⟨r, h1, h2⟩ := signs_same s (by omega) s.size 0 (by omega) (by omega) (by omega)
    refine ⟨r, ?_, ?_⟩
    · refine Ev.congr (fun k => by simp only [spec_TextOk.f]; rw [if_pos h]; try rfl) (Ev.bind (g := fun k => spec_l1Signs.l0 k s 0) h1 (Ev.now _))
    · refine Ev.congr (fun k => by simp only [impl_TextOk.f]; rw [if_pos h]; try rfl) (Ev.bind (g := fun k => impl_signsOk.l0 k s 0) h2 (Ev.now _))
  · exact ⟨false, Ev.congr (fun k => by simp only [spec_TextOk.f]; rw [if_neg h]) (Ev.now _), Ev.congr (fun k => by simp only [impl_TextOk.f]; rw [if_neg h]) (Ev.now _)⟩
theorem implIsStart_f (n : Int) : impl_IsStart.f n = some (impl_IsStart.l.any (inR n)) := rfl
theorem implIsPart_f (n : Int) : impl_IsPart.f n = some (impl_IsStart.l.any (inR n) || impl_IsPart.l.any (inR n)) := rfl
theorem implin_f (n lo hi : Int) : impl_in.f n lo hi = some (inR n (lo, hi)) := l1In_f n lo hi
theorem plain_l (s : ByteArray) (hs : s.size ≤ 16777216) (d : Nat) : ∀ i : Int, 0 ≤ i → i ≤ s.size → s.size - i.toNat ≤ d → ∃ r, Ev (fun k => spec_PlainOk.l0 k s i) r ∧ Ev (fun k => impl_PlainOk.l0 k s i) (r && inR s.size (1, 16)) := by
  have hend : ∀ i : Int, ¬ i < (s.size : Int) → ∃ r, Ev (fun k => spec_PlainOk.l0 k s i) r ∧ Ev (fun k => impl_PlainOk.l0 k s i) (r && inR s.size (1, 16)) := by
    intro i h
    refine ⟨true, Ev.step (fun k => ?_) (Ev.now _), Ev.step (fun k => ?_) (Ev.now _)⟩
    · simp only [spec_PlainOk.l0]
      rw [if_neg h]
      try rfl
    · simp only [impl_PlainOk.l0]
      rw [if_neg h, implin_f]
      try rfl
  induction d with
  | zero =>
    intro i h0 h1 hd
    exact hend i (by omega)
  | succ d ih =>
    intro i h0 h1 hd
    by_cases hlt : ¬ i < (s.size : Int)
    · exact hend i hlt
    have hlt : i < (s.size : Int) := by omega
    have hS := SignAt_ev s i (by omega)
    have hI := implSignAt_f s i (by omega)
    have hok := sgn_ok s i
    generalize sgn s i = g at *
    have hs1 : ∀ k, spec_PlainOk.l0 (k + 1) s i = ((spec_SignAt.f k s i).bind fun bt139 => (if bt139.2.2 = true then (if i = 0 then ((spec_IsStart.f k bt139.1).bind fun t142 => (if t142 = true then ((spec_IsPart.f k bt139.1).bind fun t143 => (if t143 = true then (spec_PlainOk.l0 k s bt139.2.1) else (some false))) else (some false))) else ((spec_IsPart.f k bt139.1).bind fun t144 => (if t144 = true then (spec_PlainOk.l0 k s bt139.2.1) else (some false)))) else (some false))) := fun k => by
      simp only [spec_PlainOk.l0]
      rw [if_pos hlt]
    have hi1 : ∀ k, impl_PlainOk.l0 (k + 1) s i = (if g.2.2 = true then (if i = 0 then (if impl_IsStart.l.any (inR g.1) = true then (if (impl_IsStart.l.any (inR g.1) || impl_IsPart.l.any (inR g.1)) = true then (impl_PlainOk.l0 k s g.2.1) else (some false)) else (some false)) else (if (impl_IsStart.l.any (inR g.1) || impl_IsPart.l.any (inR g.1)) = true then (impl_PlainOk.l0 k s g.2.1) else (some false))) else (some false)) := fun k => by
      simp only [impl_PlainOk.l0]
      rw [if_pos hlt, hI]
      try rfl
    have hst := IsStart_f g.1
    have hpt := IsPart_f g.1
    by_cases hg : ¬ g.2.2 = true
    · exact ⟨false, Ev.step hs1 (Ev.bind hS (Ev.congr (fun k => by rw [if_neg hg]) (Ev.now _))), Ev.step hi1 (Ev.congr (fun k => by rw [if_neg hg]; try rfl) (Ev.now _))⟩
    have hg := Decidable.not_not.1 hg
    obtain ⟨_, _, g1, g2⟩ := hok hg
    obtain ⟨r, hr1, hr2⟩ := ih g.2.1 (by omega) g2 (by omega)
    generalize impl_IsStart.l.any (inR g.1) = a at *
    generalize impl_IsPart.l.any (inR g.1) = b at *
    by_cases hz : i = 0
    · cases a with
      | false =>
        refine ⟨false, Ev.step hs1 (Ev.bind hS ?_), Ev.step hi1 (Ev.congr (fun k => by rw [if_pos hg, if_pos hz]; try rfl) (Ev.now _))⟩
        exact Ev.congr (fun k => by rw [if_pos hg, if_pos hz]) (Ev.bind hst (Ev.congr (fun k => by rw [if_neg (by simp)]) (Ev.now _)))
      | true =>
        refine ⟨r, Ev.step hs1 (Ev.bind hS ?_), Ev.step hi1 (Ev.congr (fun k => by rw [if_pos hg, if_pos hz]; try rfl) hr2)⟩
        refine Ev.congr (fun k => by rw [if_pos hg, if_pos hz]) (Ev.bind hst ?_)
        refine Ev.congr (fun k => by rw [if_pos rfl]) (Ev.bind hpt ?_)
        exact Ev.congr (fun k => by rw [if_pos (by simp)]) hr1
    · cases hq : (a || b) with
      | false =>
        rw [hq] at hpt hi1
        refine ⟨false, Ev.step hs1 (Ev.bind hS ?_), Ev.step hi1 (Ev.congr (fun k => by rw [if_pos hg, if_neg hz]; try rfl) (Ev.now _))⟩
        exact Ev.congr (fun k => by rw [if_pos hg, if_neg hz]) (Ev.bind hpt (Ev.congr (fun k => by rw [if_neg (by simp)]) (Ev.now _)))
      | true =>
        rw [hq] at hpt hi1
        refine ⟨r, Ev.step hs1 (Ev.bind hS ?_), Ev.step hi1 (Ev.congr (fun k => by rw [if_pos hg, if_neg hz]; try rfl) hr2)⟩
        exact Ev.congr (fun k => by rw [if_pos hg, if_neg hz]) (Ev.bind hpt (Ev.congr (fun k => by rw [if_pos rfl]) hr1))
theorem plain_same (s : ByteArray) (hs : s.size ≤ 16777216) : ∃ r, Ev (fun k => spec_PlainOk.f k s) r ∧ Ev (fun k => impl_PlainOk.f k s) r := by
  obtain ⟨r, h1, h2⟩ := plain_l s hs s.size 0 (by omega) (by omega) (by omega)
  refine ⟨r && inR s.size (1, 16), ?_, h2⟩
  refine Ev.congr (fun k => by simp only [spec_PlainOk.f]; rw [l1In_f, Option.bind_some]) ?_
  cases inR s.size (1, 16) with
  | false => exact Ev.congr (fun k => by rw [if_neg (by simp)]) (by rw [Bool.and_false]; exact Ev.now _)
  | true => exact Ev.congr (fun k => by rw [if_pos rfl]) (by rw [Bool.and_true]; exact h1)
theorem rd_LEnt (l : List S64) (i : Nat) (h : i < l.length) : rd_T64 l (i : Int) = l[i] := by simp [rd_T64, List.getD_eq_getElem?_getD, List.getElem?_eq_getElem h]
theorem rd_IEnt (l : List S65) (i : Nat) (h : i < l.length) : rd_T65 l (i : Int) = l[i] := by simp [rd_T65, List.getD_eq_getElem?_getD, List.getElem?_eq_getElem h]
def convEnt (x : S64) : S65 := ⟨x.f0, x.f1⟩
theorem eqEnt_f (x : S65) : laws_eqEnt.f x.f0 x.f1 x.f0 x.f1 = some true := by
  unfold laws_eqEnt.f
  simp
def wEnt (x : S64) : Int := (x.f0.size : Int) + (x.f1.size : Int)
theorem wEnt_nonneg (x : S64) : 0 ≤ wEnt x := by unfold wEnt; omega
theorem szEnt_f (x : S64) (left : Int) (hw : WF64 x) (h0 : 0 ≤ left) (h1 : left ≤ 1048576) : ∃ r, laws_szEnt.f x.f0 x.f1 left = some r ∧ (0 ≤ r → r + wEnt x = left) := by
  obtain ⟨h_0, h_1⟩ := hw
  unfold maxLen at h_0 h_1
  unfold laws_szEnt.f wrap64 wEnt
  split
  · exact ⟨_, rfl, by omega⟩
  split
  · exact ⟨_, rfl, by omega⟩
  exact ⟨_, rfl, fun _ => by omega⟩
theorem szEntS_f (l : List S64) (hw : l.length ≤ maxLen ∧ ∀ x ∈ l, WF64 x) (left : Int) (h0 : 0 ≤ left) (h1 : left ≤ 1048576) : ∃ r, Ev (fun k => laws_szEntS.f k l left) r ∧ (0 ≤ r → r + ((l.length : Int) + sumOf wEnt l) = left) := by
  obtain ⟨hl, hw⟩ := hw
  unfold maxLen at hl
  have e : wrap64 (left - (l.length : Int)) = left - (l.length : Int) := w64 (by omega) (by omega)
  by_cases hn : left - (l.length : Int) < 0
  · exact ⟨-1, Ev.congr (fun k => by simp only [laws_szEntS.f]; rw [e, if_pos hn]) (Ev.now _), fun h => by omega⟩
  · obtain ⟨r, hr, hrw⟩ := size_all (l := l) (w := wEnt) (M := 1048576) (G := fun k left i => laws_szEntS.l0 k l left i) (H := fun _ left i => laws_szEnt.f (rd_T64 l (i : Int)).f0 (rd_T64 l (i : Int)).f1 left) wEnt_nonneg
      (fun k left i h0 hi => by simp only [laws_szEntS.l0]; rw [if_pos (by omega), if_pos (by omega), w64 (by omega) (by omega)])
      (fun i hi left h0 h1 => by
        obtain ⟨r, a, b⟩ := szEnt_f l[i] left (hw _ (List.getElem_mem hi)) h0 h1
        exact ⟨r, Ev.congr (fun k => by rw [rd_LEnt l i hi]; exact a) (Ev.now r), b⟩)
      (fun k left h0 => by simp only [laws_szEntS.l0]; rw [if_neg (by omega)]) (left - (l.length : Int)) (by omega) (by omega)
    exact ⟨r, Ev.congr (fun k => by simp only [laws_szEntS.f]; rw [e, if_neg hn]) hr, fun h => by have := hrw h; omega⟩
theorem toEntS_f (l : List S64) (hl : l.length ≤ 1048576) : Ev (fun k => laws_toEntS.f k l) (l.map convEnt) := by
  have h := copy_all (l := l) (f := convEnt) (G := fun k x i => laws_toEntS.l0 k l x i) (H := fun _ i => some (convEnt (rd_T64 l (i : Int)))) (List.replicate l.length z65) (by simp)
    (fun k x i hx hi => by
      simp only [laws_toEntS.l0, laws_toEnt.f, Option.bind_some]
      rw [if_pos (by omega), if_pos (by omega), if_pos (by omega), w64 (by omega) (by omega), Int.toNat_natCast]
      rfl)
    (fun i hi => by rw [rd_LEnt l i hi]; exact Ev.now _) (fun k x hx => by simp only [laws_toEntS.l0]; rw [if_neg (by omega)])
  refine Ev.congr (fun k => ?_) h
  simp only [laws_toEntS.f, Int.toNat_natCast]
  rw [if_pos (by omega), if_pos (by omega)]
theorem eqEntS_f (l : List S65) (hl : l.length ≤ 1048576) : Ev (fun k => laws_eqEntS.f k l l) true := by
  have h := all_all (n := l.length) (G := fun k i => laws_eqEntS.l0 k l l i) (H := fun _ i => laws_eqEnt.f (rd_T65 l (i : Int)).f0 (rd_T65 l (i : Int)).f1 (rd_T65 l (i : Int)).f0 (rd_T65 l (i : Int)).f1)
    (fun k i hi => by simp only [laws_eqEntS.l0]; rw [if_pos (by omega), if_pos (by omega), if_pos (by omega), w64 (by omega) (by omega)])
    (fun i hi => Ev.congr (fun k => eqEnt_f _) (Ev.now true)) (fun k => by simp only [laws_eqEntS.l0]; rw [if_neg (by omega)])
  refine Ev.congr (fun k => ?_) h
  simp only [laws_eqEntS.f]
  rw [if_pos trivial]
def names5 : List ByteArray := [(⟨#[108, 116]⟩ : ByteArray), (⟨#[103, 116]⟩ : ByteArray), (⟨#[97, 109, 112]⟩ : ByteArray), (⟨#[97, 112, 111, 115]⟩ : ByteArray), (⟨#[113, 117, 111, 116]⟩ : ByteArray)]
theorem idx_step (n : ByteArray) (i : Nat) (hi : i < 5) (k : Nat) : slices_Index_string_string.l0 (k + 1) names5 n 5 (i : Int) = if n.toList = (rdOf ByteArray.empty names5 (i : Int)).toList then some (i : Int) else slices_Index_string_string.l0 k names5 n 5 ((i + 1 : Nat) : Int) := by
  have hl : names5.length = 5 := rfl
  simp only [slices_Index_string_string.l0]
  rw [if_pos (by omega), if_pos (by omega), if_pos (by omega), show wrap64 ((i : Int) + 1) = ((i + 1 : Nat) : Int) by rw [w64 (by omega) (by omega)]; omega]
theorem idx_end (n : ByteArray) (k : Nat) : slices_Index_string_string.l0 (k + 1) names5 n 5 ((5 : Nat) : Int) = some (-1) := by
  simp only [slices_Index_string_string.l0]
  rw [if_neg (by omega)]
theorem n0 : (rdOf ByteArray.empty names5 ((0 : Nat) : Int)).toList = [108, 116] := by rw [Go.Lib.toList_data]; rfl
theorem n1 : (rdOf ByteArray.empty names5 ((1 : Nat) : Int)).toList = [103, 116] := by rw [Go.Lib.toList_data]; rfl
theorem n2 : (rdOf ByteArray.empty names5 ((2 : Nat) : Int)).toList = [97, 109, 112] := by rw [Go.Lib.toList_data]; rfl
theorem n3 : (rdOf ByteArray.empty names5 ((3 : Nat) : Int)).toList = [97, 112, 111, 115] := by rw [Go.Lib.toList_data]; rfl
theorem n4 : (rdOf ByteArray.empty names5 ((4 : Nat) : Int)).toList = [113, 117, 111, 116] := by rw [Go.Lib.toList_data]; rfl
/-- One of the five names that stand for something anyway. -/
def known (l : List UInt8) : Bool := decide (l = [108, 116] ∨ l = [103, 116] ∨ l = [97, 109, 112] ∨ l = [97, 112, 111, 115] ∨ l = [113, 117, 111, 116])
theorem specKnown_f (n : ByteArray) : ∃ r, spec_l3Known.f n = some r ∧ (r.toList = [] ↔ known n.toList = false) := by
  unfold spec_l3Known.f known
  generalize n.toList = l
  have ne : ∀ x : UInt8, ¬ (⟨#[x]⟩ : ByteArray).toList = [] := fun x h => by
    rw [Go.Lib.toList_data] at h
    cases h
  by_cases h0 : l = [108, 116]
  · exact ⟨_, by rw [if_pos h0], by simp [ne, h0]⟩
  by_cases h1 : l = [103, 116]
  · exact ⟨_, by rw [if_neg h0, if_pos h1], by simp [ne, h1]⟩
  by_cases h2 : l = [97, 109, 112]
  · exact ⟨_, by rw [if_neg h0, if_neg h1, if_pos h2], by simp [ne, h2]⟩
  by_cases h3 : l = [97, 112, 111, 115]
  · exact ⟨_, by rw [if_neg h0, if_neg h1, if_neg h2, if_pos h3], by simp [ne, h3]⟩
  by_cases h4 : l = [113, 117, 111, 116]
  · exact ⟨_, by rw [if_neg h0, if_neg h1, if_neg h2, if_neg h3, if_pos h4], by simp [ne, h4]⟩
  have em : (⟨#[]⟩ : ByteArray).toList = [] := by rw [Go.Lib.toList_data]
  exact ⟨_, by rw [if_neg h0, if_neg h1, if_neg h2, if_neg h3, if_neg h4], by simp [em, h0, h1, h2, h3, h4]⟩
theorem contains_f (n : ByteArray) : Ev (fun k => slices_Contains_string_string.f k names5 n) (known n.toList) := by
  have go : ∀ {q : Int} {b : Bool}, decide (q ≥ 0) = b → Ev (fun k => slices_Index_string_string.l0 k names5 n 5 ((0 : Nat) : Int)) q → Ev (fun k => slices_Contains_string_string.f k names5 n) b := fun hb h => by
    refine Ev.congr (fun k => by simp only [slices_Contains_string_string.f, slices_Index_string_string.f]; rfl) (Ev.bind h ?_)
    exact Ev.congr (fun k => by rw [hb]) (Ev.now _)
  unfold known
  by_cases h0 : n.toList = [108, 116]
  · exact go (b := _) (q := ((0 : Nat) : Int)) (by rw [h0]; decide) (Ev.step (fun k => by rw [idx_step n 0 (by omega), n0, if_pos h0]) (Ev.now _))
  by_cases h1 : n.toList = [103, 116]
  · refine go (b := _) (q := ((1 : Nat) : Int)) (by rw [h1]; decide) (Ev.step (fun k => by rw [idx_step n 0 (by omega), n0, if_neg h0]) ?_)
    exact Ev.step (fun k => by rw [idx_step n 1 (by omega), n1, if_pos h1]) (Ev.now _)
  by_cases h2 : n.toList = [97, 109, 112]
  · refine go (b := _) (q := ((2 : Nat) : Int)) (by rw [h2]; decide) (Ev.step (fun k => by rw [idx_step n 0 (by omega), n0, if_neg h0]) ?_)
    refine Ev.step (fun k => by rw [idx_step n 1 (by omega), n1, if_neg h1]) ?_
    exact Ev.step (fun k => by rw [idx_step n 2 (by omega), n2, if_pos h2]) (Ev.now _)
  by_cases h3 : n.toList = [97, 112, 111, 115]
  · refine go (b := _) (q := ((3 : Nat) : Int)) (by rw [h3]; decide) (Ev.step (fun k => by rw [idx_step n 0 (by omega), n0, if_neg h0]) ?_)
    refine Ev.step (fun k => by rw [idx_step n 1 (by omega), n1, if_neg h1]) ?_
    refine Ev.step (fun k => by rw [idx_step n 2 (by omega), n2, if_neg h2]) ?_
    exact Ev.step (fun k => by rw [idx_step n 3 (by omega), n3, if_pos h3]) (Ev.now _)
  by_cases h4 : n.toList = [113, 117, 111, 116]
  · refine go (b := _) (q := ((4 : Nat) : Int)) (by rw [h4]; decide) (Ev.step (fun k => by rw [idx_step n 0 (by omega), n0, if_neg h0]) ?_)
    refine Ev.step (fun k => by rw [idx_step n 1 (by omega), n1, if_neg h1]) ?_
    refine Ev.step (fun k => by rw [idx_step n 2 (by omega), n2, if_neg h2]) ?_
    refine Ev.step (fun k => by rw [idx_step n 3 (by omega), n3, if_neg h3]) ?_
    exact Ev.step (fun k => by rw [idx_step n 4 (by omega), n4, if_pos h4]) (Ev.now _)
  refine go (b := _) (q := -1) (by simp [h0, h1, h2, h3, h4]) (Ev.step (fun k => by rw [idx_step n 0 (by omega), n0, if_neg h0]) ?_)
  refine Ev.step (fun k => by rw [idx_step n 1 (by omega), n1, if_neg h1]) ?_
  refine Ev.step (fun k => by rw [idx_step n 2 (by omega), n2, if_neg h2]) ?_
  refine Ev.step (fun k => by rw [idx_step n 3 (by omega), n3, if_neg h3]) ?_
  refine Ev.step (fun k => by rw [idx_step n 4 (by omega), n4, if_neg h4]) ?_
  exact Ev.step (fun k => by rw [idx_end]) (Ev.now _)
/-- The inner loop: no earlier one has the name. -/
theorem inner_l (l : List S65) (hl : l.length ≤ 1048576) (i : Nat) (hi : i < l.length) (r : Bool) (hr : Ev (fun k => spec_EntsOk.l0 k l ((i + 1 : Nat) : Int)) r) (d : Nat) : ∀ j : Nat, j ≤ i → i - j = d → (∀ m, m < j → impl_entAt.p l[i].f0 (l.getD m z65) = false) →
    Ev (fun k => spec_EntsOk.l1 k l (i : Int) (j : Int)) (decide (impl_Ent.idx (impl_entAt.p l[i].f0) l = (i : Int)) && r) := by
  have hself : impl_entAt.p l[i].f0 l[i] = true := by unfold impl_entAt.p; simp
  have w1 : wrap64 ((i : Int) + 1) = ((i + 1 : Nat) : Int) := by rw [w64 (by omega) (by omega)]; omega
  induction d with
  | zero =>
    intro j hj hd hno
    have e : j = i := by omega
    subst e
    have hf : l.findIdx (impl_entAt.p l[j].f0) = j := (List.findIdx_eq hi).2 ⟨hself, fun m hm => by
      have := hno m hm
      rw [List.getD_eq_getElem?_getD, List.getElem?_eq_getElem (by omega), Option.getD_some] at this
      exact this⟩
    have hx : impl_Ent.idx (impl_entAt.p l[j].f0) l = (j : Int) := by
      unfold impl_Ent.idx
      rw [hf, if_pos hi]
    rw [decide_eq_true hx, Bool.true_and]
    refine Ev.step (fun k => ?_) hr
    simp only [spec_EntsOk.l1]
    rw [if_neg (by omega), w1]
  | succ d ih =>
    intro j hj hd hno
    have hjl : j < l.length := by omega
    have hrj := rd_IEnt l j hjl
    have hri := rd_IEnt l i hi
    have w2 : wrap64 ((j : Int) + 1) = ((j + 1 : Nat) : Int) := by rw [w64 (by omega) (by omega)]; omega
    by_cases he : l[j].f0.toList = l[i].f0.toList
    · have hp : impl_entAt.p l[i].f0 l[j] = true := by unfold impl_entAt.p; simp [he]
      have hle : l.findIdx (impl_entAt.p l[i].f0) ≤ j := by
        refine Nat.le_of_not_lt (fun hlt => ?_)
        have := List.not_of_lt_findIdx hlt
        rw [hp] at this
        cases this
      have hx : ¬ impl_Ent.idx (impl_entAt.p l[i].f0) l = (i : Int) := by
        unfold impl_Ent.idx
        rw [if_pos (by omega)]
        omega
      rw [decide_eq_false hx, Bool.false_and]
      refine Ev.step (fun k => ?_) (Ev.now _)
      simp only [spec_EntsOk.l1]
      rw [if_pos (by omega), if_pos (by omega), if_pos (by omega), if_pos (by omega), if_pos (by omega), hrj, hri, if_pos he]
    · refine Ev.step (fun k => ?_) (ih (j + 1) (by omega) (by omega) (fun m hm => ?_))
      · simp only [spec_EntsOk.l1]
        rw [if_pos (by omega), if_pos (by omega), if_pos (by omega), if_pos (by omega), if_pos (by omega), hrj, hri, if_neg he, w2]
      · by_cases e : m = j
        · subst e
          rw [List.getD_eq_getElem?_getD, List.getElem?_eq_getElem hjl, Option.getD_some]
          unfold impl_entAt.p
          simp [he]
        · exact hno m (by omega)
theorem ents_l (l : List S65) (hl : l.length ≤ 1048576) (hw : ∀ x ∈ l, x.f0.size ≤ 1048576) (d : Nat) : ∀ i : Nat, i ≤ l.length → l.length - i = d →
    ∃ r, Ev (fun k => spec_EntsOk.l0 k l (i : Int)) r ∧ Ev (fun k => impl_EntsOk.l0 k l l (l.length : Int) (i : Int)) r := by
  induction d with
  | zero =>
    intro i hi hd
    refine ⟨decide ((l.length : Int) ≤ 4), Ev.step (fun k => ?_) (Ev.now _), Ev.step (fun k => ?_) (Ev.now _)⟩
    · simp only [spec_EntsOk.l0]
      rw [if_neg (by omega)]
    · simp only [impl_EntsOk.l0]
      rw [if_neg (by omega)]
  | succ d ih =>
    intro i hi hd
    have hlt : i < l.length := by omega
    have hrd := rd_IEnt l i hlt
    have w1 : wrap64 ((i : Int) + 1) = ((i + 1 : Nat) : Int) := by rw [w64 (by omega) (by omega)]; omega
    obtain ⟨p, p1, p2⟩ := plain_same l[i].f0 (by have := hw _ (List.getElem_mem hlt); omega)
    obtain ⟨t, t1, t2⟩ := text_same l[i].f1
    obtain ⟨s, s1, s2⟩ := specKnown_f l[i].f0
    have c1 := contains_f l[i].f0
    obtain ⟨r, r1, r2⟩ := ih (i + 1) (by omega) (by omega)
    have hin := inner_l l hl i hlt r r1 i 0 (by omega) (by omega) (fun m hm => by omega)
    have hS : ∀ k, spec_EntsOk.l0 (k + 1) l (i : Int) = (spec_PlainOk.f k l[i].f0).bind fun t172 => (if t172 = true then (if s.toList = ([] : List UInt8) then ((spec_TextOk.f k l[i].f1).bind fun t176 => (spec_EntsOk.j1 k l (i : Int) (!t176))) else (spec_EntsOk.j1 k l (i : Int) true)) else (spec_EntsOk.j1 k l (i : Int) true)) := fun k => by
      simp only [spec_EntsOk.l0]
      rw [if_pos (by omega), if_pos (by omega), hrd, s1]
      rfl
    have hI : ∀ k, impl_EntsOk.l0 (k + 1) l l (l.length : Int) (i : Int) = (impl_PlainOk.f k l[i].f0).bind fun t201 => (if t201 = true then ((slices_Contains_string_string.f k names5 l[i].f0).bind fun t205 => (if t205 = true then (some false) else ((impl_TextOk.f k l[i].f1).bind fun t206 => (if t206 = true then (if impl_Ent.idx (impl_entAt.p l[i].f0) l = (i : Int) then (impl_EntsOk.l0 k l l (l.length : Int) ((i + 1 : Nat) : Int)) else (some false)) else (some false))))) else (some false)) := fun k => by
      simp only [impl_EntsOk.l0]
      rw [if_pos (by omega), if_pos (by omega), if_pos (by omega), hrd, w1]
      rfl
    have hj : Ev (fun k => spec_EntsOk.j1 k l (i : Int) true) false := Ev.step (fun k => by simp only [spec_EntsOk.j1]; rw [if_pos trivial]) (Ev.now _)
    have hj2 : Ev (fun k => spec_EntsOk.j1 k l (i : Int) false) (decide (impl_Ent.idx (impl_entAt.p l[i].f0) l = (i : Int)) && r) := Ev.step (fun k => by simp only [spec_EntsOk.j1]; rw [if_neg (by simp)]; rfl) hin
    generalize known l[i].f0.toList = b at s2 c1
    cases p with
    | false => exact ⟨false, Ev.step hS (Ev.bind p1 (Ev.congr (fun k => by rw [if_neg (by simp)]) hj)), Ev.step hI (Ev.bind p2 (Ev.congr (fun k => by rw [if_neg (by simp)]) (Ev.now _)))⟩
    | true =>
      cases b with
      | true =>
        have hne : ¬ s.toList = [] := fun h => by
          have := s2.1 h
          cases this
        refine ⟨false, Ev.step hS (Ev.bind p1 (Ev.congr (fun k => by rw [if_pos rfl, if_neg hne]) hj)), Ev.step hI (Ev.bind p2 ?_)⟩
        exact Ev.congr (fun k => by rw [if_pos rfl]) (Ev.bind c1 (Ev.congr (fun k => by rw [if_pos rfl]) (Ev.now _)))
      | false =>
        have hem : s.toList = [] := s2.2 rfl
        cases t with
        | false =>
          refine ⟨false, Ev.step hS (Ev.bind p1 (Ev.congr (fun k => by rw [if_pos rfl, if_pos hem]) (Ev.bind t1 hj))), Ev.step hI (Ev.bind p2 ?_)⟩
          refine Ev.congr (fun k => by rw [if_pos rfl]) (Ev.bind c1 (Ev.congr (fun k => by rw [if_neg (by simp)]) (Ev.bind t2 ?_)))
          exact Ev.congr (fun k => by rw [if_neg (by simp)]) (Ev.now _)
        | true =>
          refine ⟨_, Ev.step hS (Ev.bind p1 (Ev.congr (fun k => by rw [if_pos rfl, if_pos hem]) (Ev.bind t1 hj2))), Ev.step hI (Ev.bind p2 ?_)⟩
          refine Ev.congr (fun k => by rw [if_pos rfl]) (Ev.bind c1 (Ev.congr (fun k => by rw [if_neg (by simp)]) (Ev.bind t2 ?_)))
          by_cases hx : impl_Ent.idx (impl_entAt.p l[i].f0) l = (i : Int)
          · rw [decide_eq_true hx, Bool.true_and]
            exact Ev.congr (fun k => by rw [if_pos rfl, if_pos hx]) r2
          · rw [decide_eq_false hx, Bool.false_and]
            exact Ev.congr (fun k => by rw [if_pos rfl, if_neg hx]) (Ev.now _)
theorem ents_same (l : List S65) (hl : l.length ≤ 1048576) (hw : ∀ x ∈ l, x.f0.size ≤ 1048576) : ∃ r, Ev (fun k => spec_EntsOk.f k l) r ∧ Ev (fun k => impl_EntsOk.f k l) r := by
  obtain ⟨r, h1, h2⟩ := ents_l l hl hw l.length 0 (by omega) (by omega)
  exact ⟨r, h1, h2⟩
theorem FnExactEntsOk : laws_FnExactEntsOk.Pure := by
  intro l hw
  obtain ⟨r, hr, hrw⟩ := szEntS_f l hw 1048576 (by omega) (by omega)
  refine Ev.rounds (r := true) ?_
  refine Ev.congr (fun k => by simp only [laws_FnExactEntsOk.f]; rfl) (Ev.bind hr ?_)
  by_cases hn : r < 0
  · exact Ev.congr (fun k => by rw [if_pos hn]) (Ev.now _)
  have hs := sumOf_nonneg wEnt_nonneg l
  have hl : l.length ≤ 1048576 := by have := hrw (by omega); omega
  have ht := toEntS_f l hl
  have hm : (l.map convEnt).length ≤ 1048576 := by simpa using hl
  have hsz : ∀ x ∈ l.map convEnt, x.f0.size ≤ 1048576 := by
    intro x hx
    obtain ⟨y, hy, rfl⟩ := List.mem_map.1 hx
    have h1 := sumOf_mem wEnt_nonneg hy
    have h2 := hrw (by omega)
    have h3 : wEnt y = (y.f0.size : Int) + (y.f1.size : Int) := rfl
    show y.f0.size ≤ 1048576
    omega
  obtain ⟨q, h1, h2⟩ := ents_same (l.map convEnt) hm hsz
  refine Ev.congr (fun k => by rw [if_neg hn]) (Ev.bind ht (Ev.bind h1 (Ev.bind ht (Ev.bind h2 ?_))))
  refine Ev.congr (fun k => by rw [if_neg (by simp)]) (Ev.bind ht (Ev.bind (eqEntS_f _ hm) ?_))
  exact Ev.congr (fun k => by rw [if_pos rfl]) (Ev.now _)

end FnExactEntsOk_
theorem FnExactEntsOk : laws_FnExactEntsOk.Pure := FnExactEntsOk_.FnExactEntsOk
end Go.Proofs.YtgchgcfjbjopkaaDoor.Pure
