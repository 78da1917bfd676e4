/- What is drawn for names: a name is its parts and its parts are it; NameAt and JoinName are the reference's.
Conditions: none. -/
import Derived.Test.YtgchgcfjbjopkaaDoorSaidFnNames
import Derived.Lib.RuneCountTail
import Derived.Lib.DecodeN
import Derived.Shelf.Unicode.DecodeSlow
import Derived.Lib.Strings
import Derived.WideShapes
import Derived.Lib.IndexMore
import Derived.Lib.SmallJoins
import Derived.Test.YtgchgcfjbjopkaaDoorLists
namespace Go.Proofs.YtgchgcfjbjopkaaDoor.Pure
open Go.RowKit Go.Proofs.YtgchgcfjbjopkaaDoor.PM Go.Proofs.YtgchgcfjbjopkaaDoorW.PrintWords Go.Proofs.YtgchgcfjbjopkaaDoorW.PrintLast Go.Proofs.YtgchgcfjbjopkaaDoor.Lists
set_option linter.unusedVariables false
set_option linter.unusedSimpArgs false

namespace FnNames_
theorem w64 {i : Int} (h0 : -9223372036854775808 ≤ i) (h1 : i ≤ 9223372036854775807) : wrap64 i = i := by unfold wrap64; omega
def inR (n : Int) (p : Int × Int) : Bool := decide (p.1 ≤ n) && decide (n ≤ p.2)
theorem l1In_f (n lo hi : Int) : spec_l1In.f n lo hi = some (inR n (lo, hi)) := by
  unfold spec_l1In.f inR
  by_cases h : n ≥ lo
  · rw [if_pos h]
    simp [h]
  · rw [if_neg h]
    have : ¬ lo ≤ n := h
    simp [this]
def flat2 (zs : List (Int × Int)) : List Int := zs.flatMap fun p => [p.1, p.2]
theorem flat2_length (zs : List (Int × Int)) : (flat2 zs).length = 2 * zs.length := by
  induction zs with
  | nil => rfl
  | cons p zs ih => simp only [flat2, List.flatMap_cons, List.length_append, List.length_cons, List.length_nil] at ih ⊢; omega
theorem flat2_get (zs : List (Int × Int)) : ∀ (j : Nat) (p : Int × Int), zs[j]? = some p → (flat2 zs)[2 * j]? = some p.1 ∧ (flat2 zs)[2 * j + 1]? = some p.2 := by
  induction zs with
  | nil => intro j p h; simp at h
  | cons q zs ih =>
    intro j p h
    cases j with
    | zero =>
      simp at h
      subst h
      simp [flat2]
    | succ j =>
      have := ih j p (by simpa using h)
      simp only [flat2, List.flatMap_cons] at this ⊢
      rw [List.getElem?_append_right (by simp; omega), List.getElem?_append_right (by simp; omega)]
      have e1 : 2 * (j + 1) - [q.1, q.2].length = 2 * j := by simp; omega
      have e2 : 2 * (j + 1) + 1 - [q.1, q.2].length = 2 * j + 1 := by simp; omega
      rw [e1, e2]
      exact this
theorem ranges_l (n : Int) (zs : List (Int × Int)) (hz : zs.length ≤ 1000) (d : Nat) : ∀ j : Nat, j ≤ zs.length → zs.length - j = d →
    Ev (fun k => spec_l1Ranges.l0 k n (flat2 zs) ((2 * j : Nat) : Int)) ((zs.drop j).any (inR n)) := by
  have hlen := flat2_length zs
  induction d with
  | zero =>
    intro j hj hd
    have e : zs.drop j = [] := List.drop_eq_nil_of_le (by omega)
    rw [e]
    refine Ev.step (fun k => ?_) (Ev.now _)
    simp only [spec_l1Ranges.l0]
    rw [if_neg (by rw [w64 (by omega) (by omega)]; omega)]
    rfl
  | succ d ih =>
    intro j hj hd
    have hlt : j < zs.length := by omega
    obtain ⟨g1, g2⟩ := flat2_get zs j zs[j] (List.getElem?_eq_getElem hlt)
    have r1 : rd (flat2 zs) ((2 * j : Nat) : Int) = zs[j].1 := by simp only [rd, Int.toNat_natCast, List.getD_eq_getElem?_getD, g1, Option.getD_some]
    have r2 : rd (flat2 zs) (((2 * j : Nat) : Int) + 1) = zs[j].2 := by
      have e : (((2 * j : Nat) : Int) + 1).toNat = 2 * j + 1 := by omega
      simp only [rd, e, List.getD_eq_getElem?_getD, g2, Option.getD_some]
    have e : zs.drop j = zs[j] :: zs.drop (j + 1) := List.drop_eq_getElem_cons hlt
    rw [e, List.any_cons]
    have hs : ∀ k, spec_l1Ranges.l0 (k + 1) n (flat2 zs) ((2 * j : Nat) : Int) = if inR n zs[j] = true then some true else spec_l1Ranges.l0 k n (flat2 zs) ((2 * (j + 1) : Nat) : Int) := fun k => by
      simp only [spec_l1Ranges.l0]
      rw [w64 (by omega) (by omega), if_pos (by omega), if_pos (by omega), if_pos (by omega), if_pos (by omega), r1, r2, l1In_f]
      simp only [Option.bind_some]
      rw [w64 (by omega) (by omega)]
      rfl
    cases hq : inR n zs[j] with
    | true =>
      refine Ev.step (fun k => ?_) (Ev.now _)
      rw [hs, hq, if_pos rfl]
      rfl
    | false =>
      refine Ev.step (fun k => ?_) (ih (j + 1) (by omega) (by omega))
      rw [hs, hq, if_neg (by simp)]
theorem ranges_f (n : Int) (zs : List (Int × Int)) (hz : zs.length ≤ 1000) (l : List Int) (hl : l = flat2 zs) : Ev (fun k => spec_l1Ranges.f k n l) (zs.any (inR n)) := by
  subst hl
  exact Ev.congr (fun k => by simp [spec_l1Ranges.f]) (ranges_l n zs hz zs.length 0 (by omega) (by omega))
theorem IsStart_f (n : Int) : Ev (fun k => spec_IsStart.f k n) (impl_IsStart.l.any (inR n)) := by
  refine Ev.congr (g := fun k => spec_IsStart.f k n) (f := fun k => (spec_l1Ranges.f k n (flat2 impl_IsStart.l)).bind fun t => some t) (fun k => ?_) (Ev.bind (ranges_f n impl_IsStart.l (by decide) _ rfl) (Ev.now _))
  rfl
theorem IsPart_f (n : Int) : Ev (fun k => spec_IsPart.f k n) (impl_IsStart.l.any (inR n) || impl_IsPart.l.any (inR n)) := by
  refine Ev.congr (g := fun k => spec_IsPart.f k n) (f := fun k => (spec_IsStart.f k n).bind fun t => if t = true then some true else (spec_l1Ranges.f k n (flat2 impl_IsPart.l)).bind fun t => some t) (fun k => rfl) (Ev.bind (IsStart_f n) ?_)
  cases impl_IsStart.l.any (inR n) with
  | true => exact Ev.congr (fun k => by rw [if_pos rfl]; rfl) (Ev.now _)
  | false => exact Ev.congr (fun k => by rw [if_neg (by simp)]) (Ev.bind (ranges_f n impl_IsPart.l (by decide) _ rfl) (Ev.now _))
theorem bt_lt (s : ByteArray) (i : Int) : 0 ≤ bt s i ∧ bt s i < 256 := by
  unfold bt
  split
  · have := (s[i.toNat]).toNat_lt
    omega
  · omega
theorem get_bt (s : ByteArray) (i : Nat) : ((s.get! i).toNat : Int) = bt s (i : Int) := by
  unfold bt
  by_cases h : i < s.size
  · rw [dif_pos (by simpa using h), Go.Proofs.Utf8W.get!_of_lt s i h]
    simp
  · rw [dif_neg (by simpa using h)]
    rw [← Go.Lib.getD_get!', List.getD_eq_getElem?_getD, List.getElem?_eq_none (by rw [Array.length_toList]; exact Nat.le_of_not_lt h)]
    rfl
set_option maxRecDepth 100000 in
theorem and31 : ∀ x : Fin 256, Go.bits .and .i64 ((x.val : Nat) : Int) 31 = ((x.val % 32 : Nat) : Int) := by decide
set_option maxRecDepth 100000 in
theorem and15 : ∀ x : Fin 256, Go.bits .and .i64 ((x.val : Nat) : Int) 15 = ((x.val % 16 : Nat) : Int) := by decide
set_option maxRecDepth 100000 in
theorem and7 : ∀ x : Fin 256, Go.bits .and .i64 ((x.val : Nat) : Int) 7 = ((x.val % 8 : Nat) : Int) := by decide
theorem band31 (s : ByteArray) (i : Int) : Go.bits .and .i64 (bt s i) 31 = bt s i % 32 := by
  have h := bt_lt s i
  have := and31 ⟨(bt s i).toNat, by omega⟩
  simp only [Int.toNat_of_nonneg h.1] at this
  rw [this]; omega
theorem band15 (s : ByteArray) (i : Int) : Go.bits .and .i64 (bt s i) 15 = bt s i % 16 := by
  have h := bt_lt s i
  have := and15 ⟨(bt s i).toNat, by omega⟩
  simp only [Int.toNat_of_nonneg h.1] at this
  rw [this]; omega
theorem band7 (s : ByteArray) (i : Int) : Go.bits .and .i64 (bt s i) 7 = bt s i % 8 := by
  have h := bt_lt s i
  have := and7 ⟨(bt s i).toNat, by omega⟩
  simp only [Int.toNat_of_nonneg h.1] at this
  rw [this]; omega
/-- The sign at a place. -/
def sgn (s : ByteArray) (i : Int) : Int × Int × Bool :=
  if i < 0 ∨ (s.size : Int) ≤ i then (0, 0, false)
  else if ((Go.Utf8.decode s i.toNat).1 : Int) = 65533 ∧ ((Go.Utf8.decode s i.toNat).2 : Int) ≤ 1 then (0, 0, false)
  else (((Go.Utf8.decode s i.toNat).1 : Int), i + ((Go.Utf8.decode s i.toNat).2 : Int), true)
theorem dec_le (s : ByteArray) (i : Nat) : (Go.Utf8.decode s i).1 ≤ 1114111 ∧ 1 ≤ (Go.Utf8.decode s i).2 ∧ (Go.Utf8.decode s i).2 ≤ 4 := by
  rw [Go.Lib.decode_at]
  have h0 := (s.get! i).toNat_lt
  unfold Go.Lib.decodeN
  repeat' split
  all_goals (refine ⟨?_, ?_, ?_⟩ <;> simp only <;> omega)
theorem implSignAt_f (s : ByteArray) (i : Int) (hs : s.size ≤ 16777216) : impl_SignAt.f s i = some (sgn s i) := by
  unfold impl_SignAt.f impl_in.f sgn
  rw [w64 (by omega) (by omega)]
  by_cases h0 : i ≥ 0
  · rw [if_pos h0]
    by_cases h1 : i ≤ (s.size : Int) - 1
    · have hd := dec_le s i.toNat
      rw [if_neg (by omega : ¬ (i < 0 ∨ (s.size : Int) ≤ i))]
      simp only [h1, decide_true, Option.bind_some, if_true]
      rw [if_pos (by omega : (0 : Int) ≤ i), if_pos (by omega : i ≤ (s.size : Int))]
      have hdg : Go.Lib.decodeGo (s.extract i.toNat s.size) = Go.Utf8.decode s i.toNat := by
        unfold Go.Lib.decodeGo
        rw [Go.Lib.tail_size, if_neg (by omega), Go.Lib.tail_decode]
        rfl
      simp only [utf8_DecodeRuneInString.f, hdg, Option.bind_some]
      generalize hD : Go.Utf8.decode s i.toNat = d at hd ⊢
      rw [w64 (by omega) (by omega), w64 (by omega) (by omega)]
      by_cases c0 : (d.1 : Int) = 65533
      · rw [if_pos c0]
        by_cases c1 : (d.2 : Int) ≤ 1
        · rw [if_pos c1, if_pos ⟨c0, c1⟩]
        · rw [if_neg c1, if_neg (fun h => c1 h.2)]
      · rw [if_neg c0, if_neg (fun h => c0 h.1)]
    · rw [if_pos (by omega : i < 0 ∨ (s.size : Int) ≤ i)]
      simp [h1]
  · rw [if_neg h0, if_pos (by omega : i < 0 ∨ (s.size : Int) ≤ i)]
    rfl
theorem l0_step (k : Nat) (s : ByteArray) (i w lo c j : Int) (hs : s.size ≤ 16777216) (h0 : 0 ≤ i + j) (h1 : i + j < s.size) (hj : j ≤ w) (hj0 : 0 ≤ j) (hw : w ≤ 9) (hc0 : 0 ≤ c) (hc1 : c ≤ 100000000) :
    spec_SignAt.l0 (k + 1) s i w lo c j = if bt s (i + j) < 128 ∨ 191 < bt s (i + j) then some (0, 0, false) else spec_SignAt.l0 k s i w lo (c * 64 + bt s (i + j) - 128) (j + 1) := by
  have hb := bt_lt s (i + j)
  rw [spec_SignAt.l0, if_pos hj, w64 (i := i + j) (by omega) (by omega), if_pos h0, if_pos h1, w64 (i := bt s (i + j)) (by omega) (by omega),
    w64 (i := c * 64) (by omega) (by omega), w64 (i := c * 64 + bt s (i + j)) (by omega) (by omega), w64 (i := c * 64 + bt s (i + j) - 128) (by omega) (by omega), w64 (i := j + 1) (by omega) (by omega)]
  by_cases c0 : bt s (i + j) < 128
  · rw [if_pos c0, if_pos (.inl c0)]
  · rw [if_neg c0]
    by_cases c1 : bt s (i + j) > 191
    · rw [if_pos c1, if_pos (.inr c1)]
    · rw [if_neg c1, if_neg (by omega)]
theorem l0_end (k : Nat) (s : ByteArray) (i w lo c j : Int) (h0 : 0 ≤ i) (h1 : i ≤ 16777216) (hj : w < j) (hw0 : 0 ≤ w) (hw : w ≤ 9) :
    spec_SignAt.l0 (k + 1) s i w lo c j = some (if c < lo ∨ 1114111 < c ∨ (55296 ≤ c ∧ c ≤ 57343) then (0, 0, false) else (c, i + 1 + w, true)) := by
  rw [spec_SignAt.l0, if_neg (by omega)]
  by_cases c0 : c < lo
  · rw [if_pos c0, if_pos (.inl c0)]
  rw [if_neg c0]
  by_cases c1 : c > 1114111
  · rw [if_pos c1, if_pos (.inr (.inl c1))]
  rw [if_neg c1, w64 (i := i + 1) (by omega) (by omega), w64 (i := i + 1 + w) (by omega) (by omega)]
  unfold spec_l1In.f
  by_cases c2 : c ≥ 55296
  · rw [if_pos c2]
    by_cases c3 : c ≤ 57343
    · rw [decide_eq_true c3, Option.bind_some, if_pos rfl, if_pos (.inr (.inr ⟨c2, c3⟩))]
    · rw [decide_eq_false c3, Option.bind_some, if_neg (by decide), if_neg (by omega)]
  · rw [if_neg c2]
    simp only [Option.bind_some]
    rw [if_neg (by decide), if_neg (by omega)]
set_option maxHeartbeats 4000000 in
theorem specSignAt_f (k : Nat) (s : ByteArray) (i : Int) (hs : s.size ≤ 16777216) : spec_SignAt.f (k + 12) s i = some (sgn s i) := by
  unfold spec_SignAt.f sgn
  by_cases g0 : i < 0
  · rw [if_pos g0, if_pos (.inl g0), spec_SignAt.j0, if_pos rfl]
  rw [if_neg g0]
  by_cases g1 : i ≥ (s.size : Int)
  · rw [if_pos (.inr g1), spec_SignAt.j0, if_pos (by simpa using g1)]
  rw [if_neg (by omega : ¬ (i < 0 ∨ (s.size : Int) ≤ i)), spec_SignAt.j0, if_neg (by simpa using g1), if_pos (by omega : 0 ≤ i), if_pos (by omega : i < (s.size : Int))]
  have hb0 := bt_lt s i
  have hb1 := bt_lt s (i + 1)
  have hb2 := bt_lt s (i + 2)
  have hb3 := bt_lt s (i + 3)
  have hi : i = ((i.toNat : Nat) : Int) := by omega
  have e0 := get_bt s i.toNat
  have e1 := get_bt s (i.toNat + 1)
  have e2 := get_bt s (i.toNat + 2)
  have e3 := get_bt s (i.toNat + 3)
  rw [show ((i.toNat : Nat) : Int) = i by omega] at e0
  rw [show ((i.toNat + 1 : Nat) : Int) = i + 1 by omega] at e1
  rw [show ((i.toNat + 2 : Nat) : Int) = i + 2 by omega] at e2
  rw [show ((i.toNat + 3 : Nat) : Int) = i + 3 by omega] at e3
  have hd := Go.Lib.decode_at s i.toNat
  generalize Go.Utf8.decode s i.toNat = d at hd ⊢
  obtain ⟨d1, d2⟩ := d
  generalize s.get! i.toNat = B0 at hd e0
  generalize s.get! (i.toNat + 1) = B1 at hd e1
  generalize s.get! (i.toNat + 2) = B2 at hd e2
  generalize s.get! (i.toNat + 3) = B3 at hd e3
  simp only
  rw [w64 (i := bt s i) (by omega) (by omega), w64 (i := i + 1) (by omega) (by omega)]
  by_cases c0 : bt s i < 128
  · rw [if_pos c0]
    unfold Go.Lib.decodeN at hd
    rw [if_pos (by omega)] at hd
    obtain ⟨rfl, rfl⟩ := Prod.mk.inj hd
    rw [if_neg (by omega), e0]
    rfl
  rw [if_neg c0]
  by_cases c1 : bt s i ≥ 192
  · rw [if_pos c1]
    by_cases c2 : bt s i < 224
    · rw [spec_SignAt.j1, if_pos (by simpa using c2), band31, spec_SignAt.j3, w64 (i := (s.size : Int) - 1) (by omega) (by omega), w64 (i := (s.size : Int) - 1 - 1) (by omega) (by omega)]
      have hE : (if i > (s.size : Int) - 1 - 1 then some (0, 0, false) else spec_SignAt.l0 (k + 9) s i 1 128 (bt s i % 32) 1) = (if i > (s.size : Int) - 2 then some (0, 0, false) else (if bt s (i + 1) < 128 ∨ 191 < bt s (i + 1) then some (0, 0, false) else some (if (bt s i % 32) * 64 + bt s (i + 1) - 128 < 128 ∨ 1114111 < (bt s i % 32) * 64 + bt s (i + 1) - 128 ∨ (55296 ≤ (bt s i % 32) * 64 + bt s (i + 1) - 128 ∧ (bt s i % 32) * 64 + bt s (i + 1) - 128 ≤ 57343) then (0, 0, false) else ((bt s i % 32) * 64 + bt s (i + 1) - 128, i + 1 + 1, true)))) := by
        by_cases t0 : i > (s.size : Int) - 1 - 1
        · rw [if_pos t0, if_pos (by omega)]
        rw [if_neg t0, if_neg (by omega), l0_step (k + 8) s i 1 128 _ 1 hs (by omega) (by omega) (by omega) (by omega) (by omega) (by omega) (by omega)]
        by_cases t1 : bt s (i + 1) < 128 ∨ 191 < bt s (i + 1)
        · rw [if_pos t1, if_pos t1]
        rw [if_neg t1, if_neg t1, l0_end (k + 7) s i 1 128 _ _ (by omega) (by omega) (by omega) (by omega) (by omega)]
      rw [hE]
      clear hE
      generalize bt s i = b0 at *
      generalize bt s (i + 1) = b1 at *
      generalize bt s (i + 2) = b2 at *
      generalize bt s (i + 3) = b3 at *
      unfold Go.Lib.decodeN at hd
      repeat' split at hd
      all_goals (simp only [Prod.mk.injEq] at hd; obtain ⟨rfl, rfl⟩ := hd; repeat' split)
      all_goals first | rfl | (exfalso; omega) | (simp only [Option.some.injEq, Prod.mk.injEq]; refine ⟨?_, ?_, ?_⟩ <;> first | omega | trivial | rfl)
    rw [spec_SignAt.j1, if_neg (by simpa using c2)]
    rw [if_pos (by omega : bt s i ≥ 224)]
    by_cases c3 : bt s i < 240
    · rw [spec_SignAt.j2, if_pos (by simpa using c3), band15, spec_SignAt.j3, w64 (i := (s.size : Int) - 1) (by omega) (by omega), w64 (i := (s.size : Int) - 1 - 2) (by omega) (by omega)]
      have hE : (if i > (s.size : Int) - 1 - 2 then some (0, 0, false) else spec_SignAt.l0 (k + 8) s i 2 2048 (bt s i % 16) 1) = (if i > (s.size : Int) - 3 then some (0, 0, false) else (if bt s (i + 1) < 128 ∨ 191 < bt s (i + 1) then some (0, 0, false) else (if bt s (i + 2) < 128 ∨ 191 < bt s (i + 2) then some (0, 0, false) else some (if ((bt s i % 16) * 64 + bt s (i + 1) - 128) * 64 + bt s (i + 2) - 128 < 2048 ∨ 1114111 < ((bt s i % 16) * 64 + bt s (i + 1) - 128) * 64 + bt s (i + 2) - 128 ∨ (55296 ≤ ((bt s i % 16) * 64 + bt s (i + 1) - 128) * 64 + bt s (i + 2) - 128 ∧ ((bt s i % 16) * 64 + bt s (i + 1) - 128) * 64 + bt s (i + 2) - 128 ≤ 57343) then (0, 0, false) else (((bt s i % 16) * 64 + bt s (i + 1) - 128) * 64 + bt s (i + 2) - 128, i + 1 + 2, true))))) := by
        by_cases t0 : i > (s.size : Int) - 1 - 2
        · rw [if_pos t0, if_pos (by omega)]
        rw [if_neg t0, if_neg (by omega), l0_step (k + 7) s i 2 2048 _ 1 hs (by omega) (by omega) (by omega) (by omega) (by omega) (by omega) (by omega)]
        by_cases t1 : bt s (i + 1) < 128 ∨ 191 < bt s (i + 1)
        · rw [if_pos t1, if_pos t1]
        rw [if_neg t1, if_neg t1, show (1 + 1 : Int) = 2 from rfl, l0_step (k + 6) s i 2 2048 _ 2 hs (by omega) (by omega) (by omega) (by omega) (by omega) (by omega) (by omega)]
        by_cases t2 : bt s (i + 2) < 128 ∨ 191 < bt s (i + 2)
        · rw [if_pos t2, if_pos t2]
        rw [if_neg t2, if_neg t2, l0_end (k + 5) s i 2 2048 _ _ (by omega) (by omega) (by omega) (by omega) (by omega)]
      rw [hE]
      clear hE
      generalize bt s i = b0 at *
      generalize bt s (i + 1) = b1 at *
      generalize bt s (i + 2) = b2 at *
      generalize bt s (i + 3) = b3 at *
      unfold Go.Lib.decodeN at hd
      repeat' split at hd
      all_goals (simp only [Prod.mk.injEq] at hd; obtain ⟨rfl, rfl⟩ := hd; repeat' split)
      all_goals first | rfl | (exfalso; omega) | (simp only [Option.some.injEq, Prod.mk.injEq]; refine ⟨?_, ?_, ?_⟩ <;> first | omega | trivial | rfl)
    rw [spec_SignAt.j2, if_neg (by simpa using c3), if_pos (by omega : bt s i ≥ 240)]
    by_cases c4 : bt s i < 248
    · rw [if_pos c4, band7, spec_SignAt.j3, w64 (i := (s.size : Int) - 1) (by omega) (by omega), w64 (i := (s.size : Int) - 1 - 3) (by omega) (by omega)]
      have hE : (if i > (s.size : Int) - 1 - 3 then some (0, 0, false) else spec_SignAt.l0 (k + 8) s i 3 65536 (bt s i % 8) 1) = (if i > (s.size : Int) - 4 then some (0, 0, false) else (if bt s (i + 1) < 128 ∨ 191 < bt s (i + 1) then some (0, 0, false) else (if bt s (i + 2) < 128 ∨ 191 < bt s (i + 2) then some (0, 0, false) else (if bt s (i + 3) < 128 ∨ 191 < bt s (i + 3) then some (0, 0, false) else some (if (((bt s i % 8) * 64 + bt s (i + 1) - 128) * 64 + bt s (i + 2) - 128) * 64 + bt s (i + 3) - 128 < 65536 ∨ 1114111 < (((bt s i % 8) * 64 + bt s (i + 1) - 128) * 64 + bt s (i + 2) - 128) * 64 + bt s (i + 3) - 128 ∨ (55296 ≤ (((bt s i % 8) * 64 + bt s (i + 1) - 128) * 64 + bt s (i + 2) - 128) * 64 + bt s (i + 3) - 128 ∧ (((bt s i % 8) * 64 + bt s (i + 1) - 128) * 64 + bt s (i + 2) - 128) * 64 + bt s (i + 3) - 128 ≤ 57343) then (0, 0, false) else ((((bt s i % 8) * 64 + bt s (i + 1) - 128) * 64 + bt s (i + 2) - 128) * 64 + bt s (i + 3) - 128, i + 1 + 3, true)))))) := by
        by_cases t0 : i > (s.size : Int) - 1 - 3
        · rw [if_pos t0, if_pos (by omega)]
        rw [if_neg t0, if_neg (by omega), l0_step (k + 7) s i 3 65536 _ 1 hs (by omega) (by omega) (by omega) (by omega) (by omega) (by omega) (by omega)]
        by_cases t1 : bt s (i + 1) < 128 ∨ 191 < bt s (i + 1)
        · rw [if_pos t1, if_pos t1]
        rw [if_neg t1, if_neg t1, show (1 + 1 : Int) = 2 from rfl, l0_step (k + 6) s i 3 65536 _ 2 hs (by omega) (by omega) (by omega) (by omega) (by omega) (by omega) (by omega)]
        by_cases t2 : bt s (i + 2) < 128 ∨ 191 < bt s (i + 2)
        · rw [if_pos t2, if_pos t2]
        rw [if_neg t2, if_neg t2, show (2 + 1 : Int) = 3 from rfl, l0_step (k + 5) s i 3 65536 _ 3 hs (by omega) (by omega) (by omega) (by omega) (by omega) (by omega) (by omega)]
        by_cases t3 : bt s (i + 3) < 128 ∨ 191 < bt s (i + 3)
        · rw [if_pos t3, if_pos t3]
        rw [if_neg t3, if_neg t3, l0_end (k + 4) s i 3 65536 _ _ (by omega) (by omega) (by omega) (by omega) (by omega)]
      rw [hE]
      clear hE
      generalize bt s i = b0 at *
      generalize bt s (i + 1) = b1 at *
      generalize bt s (i + 2) = b2 at *
      generalize bt s (i + 3) = b3 at *
      unfold Go.Lib.decodeN at hd
      repeat' split at hd
      all_goals (simp only [Prod.mk.injEq] at hd; obtain ⟨rfl, rfl⟩ := hd; repeat' split)
      all_goals first | rfl | (exfalso; omega) | (simp only [Option.some.injEq, Prod.mk.injEq]; refine ⟨?_, ?_, ?_⟩ <;> first | omega | trivial | rfl)
    rw [if_neg c4]
    unfold Go.Lib.decodeN at hd
    rw [if_neg (by omega), if_neg (by omega), if_neg (by omega), if_neg (by omega)] at hd
    obtain ⟨rfl, rfl⟩ := Prod.mk.inj hd
    rfl
  · rw [if_neg c1, spec_SignAt.j1, if_neg (by decide), if_neg (by omega), spec_SignAt.j2, if_neg (by decide), if_neg (by omega)]
    unfold Go.Lib.decodeN at hd
    rw [if_neg (by omega), if_neg (by omega), if_neg (by omega), if_neg (by omega)] at hd
    obtain ⟨rfl, rfl⟩ := Prod.mk.inj hd
    rfl
theorem SignAt_ev (s : ByteArray) (i : Int) (hs : s.size ≤ 16777216) : Ev (fun k => spec_SignAt.f k s i) (sgn s i) := ⟨12, fun k hk => by
  obtain ⟨m, rfl⟩ : ∃ m, k = m + 12 := ⟨k - 12, by omega⟩
  exact specSignAt_f m s i hs⟩
theorem sgn_ok (s : ByteArray) (i : Int) (h : (sgn s i).2.2 = true) : 0 ≤ i ∧ i < s.size ∧ i < (sgn s i).2.1 ∧ (sgn s i).2.1 ≤ s.size := by
  revert h
  unfold sgn
  by_cases h0 : i < 0 ∨ (s.size : Int) ≤ i
  · rw [if_pos h0]; intro h; exact absurd h (by simp)
  rw [if_neg h0]
  have hd := Go.Lib.decode_at s i.toNat
  have hw := dec_le s i.toNat
  generalize Go.Utf8.decode s i.toNat = d at *
  obtain ⟨d1, d2⟩ := d
  by_cases h1 : (d1 : Int) = 65533 ∧ (d2 : Int) ≤ 1
  · rw [if_pos h1]; intro h; exact absurd h (by simp)
  rw [if_neg h1]
  intro _
  have e : i + (d2 : Int) ≤ s.size := by
    unfold Go.Lib.decodeN at hd
    repeat' split at hd
    all_goals (simp only [Prod.mk.injEq] at hd; obtain ⟨rfl, rfl⟩ := hd; omega)
  simp only at hw
  exact ⟨by omega, by omega, by simp only; omega, e⟩
theorem implIsStart_f (n : Int) : impl_IsStart.f n = some (impl_IsStart.l.any (inR n)) := rfl
theorem implIsPart_f (n : Int) : impl_IsPart.f n = some (impl_IsStart.l.any (inR n) || impl_IsPart.l.any (inR n)) := rfl
theorem implin_f (n lo hi : Int) : impl_in.f n lo hi = some (inR n (lo, hi)) := l1In_f n lo hi
theorem plain_l (s : ByteArray) (hs : s.size ≤ 16777216) (d : Nat) : ∀ i : Int, 0 ≤ i → i ≤ s.size → s.size - i.toNat ≤ d → ∃ r, Ev (fun k => spec_PlainOk.l0 k s i) r ∧ Ev (fun k => impl_PlainOk.l0 k s i) (r && inR s.size (1, 16)) := by
  have hend : ∀ i : Int, ¬ i < (s.size : Int) → ∃ r, Ev (fun k => spec_PlainOk.l0 k s i) r ∧ Ev (fun k => impl_PlainOk.l0 k s i) (r && inR s.size (1, 16)) := by
    intro i h
    refine ⟨true, Ev.step (fun k => ?_) (Ev.now _), Ev.step (fun k => ?_) (Ev.now _)⟩
    · simp only [spec_PlainOk.l0]
      rw [if_neg h]
      try rfl
    · simp only [impl_PlainOk.l0]
      rw [if_neg h, implin_f]
      try rfl
  induction d with
  | zero =>
    intro i h0 h1 hd
    exact hend i (by omega)
  | succ d ih =>
    intro i h0 h1 hd
    by_cases hlt : ¬ i < (s.size : Int)
    · exact hend i hlt
    have hlt : i < (s.size : Int) := by omega
    have hS := SignAt_ev s i (by omega)
    have hI := implSignAt_f s i (by omega)
    have hok := sgn_ok s i
    generalize sgn s i = g at *
    have hs1 : ∀ k, spec_PlainOk.l0 (k + 1) s i = ((spec_SignAt.f k s i).bind fun bt139 => (if bt139.2.2 = true then (if i = 0 then ((spec_IsStart.f k bt139.1).bind fun t142 => (if t142 = true then ((spec_IsPart.f k bt139.1).bind fun t143 => (if t143 = true then (spec_PlainOk.l0 k s bt139.2.1) else (some false))) else (some false))) else ((spec_IsPart.f k bt139.1).bind fun t144 => (if t144 = true then (spec_PlainOk.l0 k s bt139.2.1) else (some false)))) else (some false))) := fun k => by
      simp only [spec_PlainOk.l0]
      rw [if_pos hlt]
    have hi1 : ∀ k, impl_PlainOk.l0 (k + 1) s i = (if g.2.2 = true then (if i = 0 then (if impl_IsStart.l.any (inR g.1) = true then (if (impl_IsStart.l.any (inR g.1) || impl_IsPart.l.any (inR g.1)) = true then (impl_PlainOk.l0 k s g.2.1) else (some false)) else (some false)) else (if (impl_IsStart.l.any (inR g.1) || impl_IsPart.l.any (inR g.1)) = true then (impl_PlainOk.l0 k s g.2.1) else (some false))) else (some false)) := fun k => by
      simp only [impl_PlainOk.l0]
      rw [if_pos hlt, hI]
      try rfl
    have hst := IsStart_f g.1
    have hpt := IsPart_f g.1
    by_cases hg : ¬ g.2.2 = true
    · exact ⟨false, Ev.step hs1 (Ev.bind hS (Ev.congr (fun k => by rw [if_neg hg]) (Ev.now _))), Ev.step hi1 (Ev.congr (fun k => by rw [if_neg hg]; try rfl) (Ev.now _))⟩
    have hg := Decidable.not_not.1 hg
    obtain ⟨_, _, g1, g2⟩ := hok hg
    obtain ⟨r, hr1, hr2⟩ := ih g.2.1 (by omega) g2 (by omega)
    generalize impl_IsStart.l.any (inR g.1) = a at *
    generalize impl_IsPart.l.any (inR g.1) = b at *
    by_cases hz : i = 0
    · cases a with
      | false =>
        refine ⟨false, Ev.step hs1 (Ev.bind hS ?_), Ev.step hi1 (Ev.congr (fun k => by rw [if_pos hg, if_pos hz]; try rfl) (Ev.now _))⟩
        exact Ev.congr (fun k => by rw [if_pos hg, if_pos hz]) (Ev.bind hst (Ev.congr (fun k => by rw [if_neg (by simp)]) (Ev.now _)))
      | true =>
        refine ⟨r, Ev.step hs1 (Ev.bind hS ?_), Ev.step hi1 (Ev.congr (fun k => by rw [if_pos hg, if_pos hz]; try rfl) hr2)⟩
        refine Ev.congr (fun k => by rw [if_pos hg, if_pos hz]) (Ev.bind hst ?_)
        refine Ev.congr (fun k => by rw [if_pos rfl]) (Ev.bind hpt ?_)
        exact Ev.congr (fun k => by rw [if_pos (by simp)]) hr1
    · cases hq : (a || b) with
      | false =>
        rw [hq] at hpt hi1
        refine ⟨false, Ev.step hs1 (Ev.bind hS ?_), Ev.step hi1 (Ev.congr (fun k => by rw [if_pos hg, if_neg hz]; try rfl) (Ev.now _))⟩
        exact Ev.congr (fun k => by rw [if_pos hg, if_neg hz]) (Ev.bind hpt (Ev.congr (fun k => by rw [if_neg (by simp)]) (Ev.now _)))
      | true =>
        rw [hq] at hpt hi1
        refine ⟨r, Ev.step hs1 (Ev.bind hS ?_), Ev.step hi1 (Ev.congr (fun k => by rw [if_pos hg, if_neg hz]; try rfl) hr2)⟩
        exact Ev.congr (fun k => by rw [if_pos hg, if_neg hz]) (Ev.bind hpt (Ev.congr (fun k => by rw [if_pos rfl]) hr1))
theorem plain_same (s : ByteArray) (hs : s.size ≤ 16777216) : ∃ r, Ev (fun k => spec_PlainOk.f k s) r ∧ Ev (fun k => impl_PlainOk.f k s) r := by
  obtain ⟨r, h1, h2⟩ := plain_l s hs s.size 0 (by omega) (by omega) (by omega)
  refine ⟨r && inR s.size (1, 16), ?_, h2⟩
  refine Ev.congr (fun k => by simp only [spec_PlainOk.f]; rw [l1In_f, Option.bind_some]) ?_
  cases inR s.size (1, 16) with
  | false => exact Ev.congr (fun k => by rw [if_neg (by simp)]) (by rw [Bool.and_false]; exact Ev.now _)
  | true => exact Ev.congr (fun k => by rw [if_pos rfl]) (by rw [Bool.and_true]; exact h1)
theorem cut_none (s : ByteArray) (i : Nat) : s.extract i i = (⟨#[]⟩ : ByteArray) := ByteArray.ext (by simp)
theorem cut_if (s : ByteArray) (a i : Int) (h0 : 0 ≤ a) (h1 : a ≤ i) (h2 : i ≤ s.size) : (if 0 ≤ a then (if a ≤ i then (if i ≤ (s.size : Int) then (some (s.extract (a : Int).toNat (i : Int).toNat, i)) else (none)) else (none)) else (none)) = some (s.extract a.toNat i.toNat, i) := by
  rw [if_pos h0, if_pos h1, if_pos h2]
theorem cut_if2 (s : ByteArray) (a i : Int) (h0 : 0 ≤ a) (h1 : a ≤ i) (h2 : i ≤ s.size) : (if i = a then (some ((⟨#[]⟩ : ByteArray), a)) else (if 0 ≤ a then (if a ≤ i then (if i ≤ (s.size : Int) then (some (s.extract (a : Int).toNat (i : Int).toNat, i)) else (none)) else (none)) else (none))) = some (s.extract a.toNat i.toNat, i) := by
  by_cases e : i = a
  · subst e
    rw [if_pos rfl, cut_none]
  · rw [if_neg e, cut_if s a i h0 h1 h2]
theorem name_l (s : ByteArray) (hs : s.size ≤ 16777216) (a : Int) (ha : 0 ≤ a) (d : Nat) : ∀ i : Int, a ≤ i → i ≤ s.size → s.size - i.toNat ≤ d → ∃ r, Ev (fun k => spec_NameAt.l0 k s a i) r ∧ Ev (fun k => impl_NameAt.l0 k s a i) r := by
  have hstop : ∀ i : Int, a ≤ i → i ≤ s.size → (sgn s i).2.2 = false → ∃ r, Ev (fun k => spec_NameAt.l0 k s a i) r ∧ Ev (fun k => impl_NameAt.l0 k s a i) r := by
    intro i h0 h1 hg
    refine ⟨(s.extract a.toNat i.toNat, i), ?_, Ev.step (fun k => ?_) (Ev.now _)⟩
    · by_cases hlt : i < (s.size : Int)
      · refine Ev.step (fun k => by simp only [spec_NameAt.l0]; rw [if_pos hlt]) (Ev.bind (SignAt_ev s i hs) ?_)
        exact Ev.congr (fun k => by rw [if_neg (by simp [hg]), cut_if s a i ha h0 h1]) (Ev.now _)
      · exact Ev.step (fun k => by simp only [spec_NameAt.l0]; rw [if_neg hlt, cut_if s a i ha h0 h1]; try rfl) (Ev.now _)
    · simp only [impl_NameAt.l0]
      rw [implSignAt_f s i hs, Option.bind_some, if_neg (by simp [hg]), cut_if2 s a i ha h0 h1]
      try rfl
  induction d with
  | zero =>
    intro i h0 h1 hd
    refine hstop i h0 h1 ?_
    unfold sgn
    rw [if_pos (by omega)]
  | succ d ih =>
    intro i h0 h1 hd
    cases hg : (sgn s i).2.2 with
    | false => exact hstop i h0 h1 hg
    | true =>
      obtain ⟨_, hlt, g1, g2⟩ := sgn_ok s i hg
      have hS := SignAt_ev s i (by omega)
      have hI := implSignAt_f s i (by omega)
      generalize sgn s i = g at *
      have hs1 : ∀ k, spec_NameAt.l0 (k + 1) s a i = ((spec_SignAt.f k s i).bind fun bt154 => (if bt154.2.2 = true then (if bt154.1 = 58 then (spec_NameAt.l0 k s a bt154.2.1) else ((spec_IsPart.f k bt154.1).bind fun t157 => (if t157 = true then (spec_NameAt.l0 k s a bt154.2.1) else some (s.extract a.toNat i.toNat, i)))) else some (s.extract a.toNat i.toNat, i))) := fun k => by
        simp only [spec_NameAt.l0]
        rw [if_pos hlt, cut_if s a i ha h0 h1]
      have hi1 : ∀ k, impl_NameAt.l0 (k + 1) s a i = (if (impl_IsStart.l.any (inR g.1) || impl_IsPart.l.any (inR g.1)) = true then (impl_NameAt.l0 k s a g.2.1) else (if g.1 = 58 then (impl_NameAt.l0 k s a g.2.1) else some (s.extract a.toNat i.toNat, i))) := fun k => by
        simp only [impl_NameAt.l0]
        rw [cut_if2 s a i ha h0 h1, hI, Option.bind_some, if_pos hg, implIsPart_f, Option.bind_some]
      have hpt := IsPart_f g.1
      generalize (impl_IsStart.l.any (inR g.1) || impl_IsPart.l.any (inR g.1)) = b at *
      obtain ⟨r, hr1, hr2⟩ := ih g.2.1 (by omega) g2 (by omega)
      by_cases h58 : g.1 = 58
      · refine ⟨r, Ev.step hs1 (Ev.bind hS (Ev.congr (fun k => by rw [if_pos hg, if_pos h58]) hr1)), Ev.step hi1 ?_⟩
        exact Ev.congr (fun k => by rw [if_pos h58, ite_self]) hr2
      · cases b with
        | true =>
          refine ⟨r, Ev.step hs1 (Ev.bind hS ?_), Ev.step hi1 (Ev.congr (fun k => by rw [if_pos rfl]) hr2)⟩
          exact Ev.congr (fun k => by rw [if_pos hg, if_neg h58]) (Ev.bind hpt (Ev.congr (fun k => by rw [if_pos rfl]) hr1))
        | false =>
          refine ⟨_, Ev.step hs1 (Ev.bind hS ?_), Ev.step hi1 (Ev.congr (fun k => by rw [if_neg (by simp), if_neg h58]) (Ev.now _))⟩
          exact Ev.congr (fun k => by rw [if_pos hg, if_neg h58]) (Ev.bind hpt (Ev.congr (fun k => by rw [if_neg (by simp)]) (Ev.now _)))
theorem name_same (s : ByteArray) (hs : s.size ≤ 16777216) (a : Int) : ∃ r, Ev (fun k => spec_NameAt.f k s a) r ∧ Ev (fun k => impl_NameAt.f k s a) r := by
  by_cases h0 : a < 0
  · refine ⟨((⟨#[]⟩ : ByteArray), a), Ev.congr (fun k => by simp only [spec_NameAt.f]; rw [if_pos h0]) (Ev.step (fun k => by simp only [spec_NameAt.j0]; rw [if_pos trivial]; try rfl) (Ev.now _)), Ev.congr (fun k => by simp only [impl_NameAt.f]; rw [if_pos h0]) (Ev.now _)⟩
  by_cases h1 : a > (s.size : Int)
  · refine ⟨((⟨#[]⟩ : ByteArray), a), Ev.congr (fun k => by simp only [spec_NameAt.f]; rw [if_neg h0, decide_eq_true h1]) (Ev.step (fun k => by simp only [spec_NameAt.j0]; rw [if_pos trivial]; try rfl) (Ev.now _)), Ev.congr (fun k => by simp only [impl_NameAt.f]; rw [if_neg h0]) (Ev.step (fun k => ?_) (Ev.now _))⟩
    have e : sgn s a = (0, 0, false) := by
      unfold sgn
      rw [if_pos (by omega)]
    simp only [impl_NameAt.l0]
    rw [implSignAt_f s a hs, e, Option.bind_some, if_neg (by decide), if_pos trivial]
    try rfl
  obtain ⟨r, h2, h3⟩ := name_l s hs a (by omega) s.size a (by omega) (by omega) (by omega)
  refine ⟨r, Ev.congr (fun k => by simp only [spec_NameAt.f]; rw [if_neg h0, decide_eq_false h1]) (Ev.step (fun k => by simp only [spec_NameAt.j0]; rw [if_neg (by simp)]) h2), Ev.congr (fun k => by simp only [impl_NameAt.f]; rw [if_neg h0]) h3⟩
theorem bt_data (s : ByteArray) (i : Nat) (h : i < s.size) : bt s (i : Int) = ((s.data.toList[i]'(by rw [← Go.Lib.size_eq]; exact h)).toNat : Int) := by
  unfold bt
  rw [dif_pos (by simpa using h)]
  simp only [Int.toNat_natCast]
  rfl
theorem nb {c d : UInt8} (h : ¬ c = d) {z : Int} (hz : z = (d.toNat : Int)) : ¬ (c.toNat : Int) = z := fun e => h (UInt8.toNat_inj.1 (by omega))
theorem occ58 (l : List UInt8) (j : Nat) : Go.Lib.occAt l [58] j = decide (l[j]? = some 58) := by
  unfold Go.Lib.occAt
  rw [Bool.eq_iff_iff, decide_eq_true_iff]
  by_cases h : j < l.length
  · rw [List.drop_eq_getElem_cons h, List.getElem?_eq_getElem h]
    simp only [List.isPrefixOf, Bool.and_true, beq_iff_eq, Option.some.injEq]
    exact ⟨fun h => h.symm, fun h => h.symm⟩
  · rw [List.drop_eq_nil_of_le (by omega), List.getElem?_eq_none (by omega)]
    simp [List.isPrefixOf]
theorem extract_lo (s : ByteArray) (i : Nat) : (⟨(s.data.toList.take i).toArray⟩ : ByteArray) = s.extract 0 i := by
  apply Go.WideShapes.bytes_inj
  rw [Go.Lib.extract_data]
  simp
theorem extract_hi (s : ByteArray) (i : Nat) : (⟨(s.data.toList.drop i).toArray⟩ : ByteArray) = s.extract i s.size := by
  apply Go.WideShapes.bytes_inj
  rw [Go.Lib.extract_data, Go.Lib.size_eq]
  rw [List.take_of_length_le (by simp)]
def restSplit (k : Nat) (s : ByteArray) : Option (ByteArray × ByteArray × Bool) :=
  (strings_Cut.f s (⟨#[58]⟩ : ByteArray)).bind fun bt135 => (if bt135.2.2 = true then ((impl_PlainOk.f k bt135.1).bind fun t138 => (if t138 = true then ((impl_PlainOk.f k bt135.2.1).bind fun t139 => (if t139 = true then (some (bt135.1, bt135.2.1, true)) else (some ((⟨#[]⟩ : ByteArray), (⟨#[]⟩ : ByteArray), false)))) else (some ((⟨#[]⟩ : ByteArray), (⟨#[]⟩ : ByteArray), false)))) else (some ((⟨#[]⟩ : ByteArray), (⟨#[]⟩ : ByteArray), false)))
theorem cut_hit (s : ByteArray) (hs : s.size ≤ 16777216) (i : Nat) (hi : i < s.size) (h : s.data.toList[i]? = some 58) (hno : ∀ j, j < i → s.data.toList[j]? ≠ some 58) :
    strings_Cut.f s (⟨#[58]⟩ : ByteArray) = some (s.extract 0 i, s.extract (i + 1) s.size, true) := by
  have hx : Go.Lib.index s.data.toList [58] = (i : Int) := Go.Lib.index_first (by rw [← Go.Lib.size_eq]; omega) (by rw [occ58, decide_eq_true h]) (fun j hj => by rw [occ58, decide_eq_false (hno j hj)])
  have e : (⟨#[58]⟩ : ByteArray).data.toList = [58] := rfl
  unfold strings_Cut.f
  rw [if_pos (by omega), e]
  unfold Go.Lib.cut
  rw [hx, if_pos (by omega)]
  simp only [Int.toNat_natCast, List.length_cons, List.length_nil]
  rw [extract_lo, extract_hi]
theorem cut_miss (s : ByteArray) (hs : s.size ≤ 16777216) (hno : ∀ j, j < s.size → s.data.toList[j]? ≠ some 58) :
    ∃ a b, strings_Cut.f s (⟨#[58]⟩ : ByteArray) = some (a, b, false) := by
  have hx : Go.Lib.index s.data.toList [58] = -1 := Go.Lib.index_none (fun j hj => by
    rw [occ58]
    by_cases h : j < s.size
    · rw [decide_eq_false (hno j h)]
    · rw [Go.Lib.size_eq] at h
      rw [List.getElem?_eq_none (by omega)]
      simp)
  have e : (⟨#[58]⟩ : ByteArray).data.toList = [58] := rfl
  unfold strings_Cut.f
  rw [if_pos (by omega), e]
  unfold Go.Lib.cut
  rw [hx, if_neg (by omega)]
  exact ⟨_, _, rfl⟩
/-- What is known of a name's parts. -/
def SplitInfo (s : ByteArray) (r : ByteArray × ByteArray × Bool) : Prop :=
  r = ((⟨#[]⟩ : ByteArray), (⟨#[]⟩ : ByteArray), false) ∨ ∃ p l, r = (p, l, true) ∧ p ++ (⟨#[58]⟩ : ByteArray) ++ l = s ∧ Ev (fun k => impl_PlainOk.f k p) true ∧ Ev (fun k => impl_PlainOk.f k l) true
theorem glue (s : ByteArray) (i : Nat) (h : s.data.toList[i]? = some 58) : s.extract 0 i ++ (⟨#[58]⟩ : ByteArray) ++ s.extract (i + 1) s.size = s := by
  obtain ⟨hi, he⟩ := List.getElem?_eq_some_iff.1 h
  apply Go.WideShapes.bytes_inj
  rw [Go.Joins.data_append, Go.Joins.data_append, ← extract_lo, ← extract_hi]
  show s.data.toList.take i ++ [58] ++ s.data.toList.drop (i + 1) = s.data.toList
  conv => rhs; rw [← List.take_append_drop i s.data.toList, List.drop_eq_getElem_cons hi, he]
  simp
theorem split_l (s : ByteArray) (hs : s.size ≤ 16777216) (d : Nat) : ∀ i : Nat, i ≤ s.size → s.size - i = d → (∀ j, j < i → s.data.toList[j]? ≠ some 58) →
    ∃ r, Ev (fun k => spec_SplitName.l0 k s (i : Int)) r ∧ Ev (fun k => restSplit k s) r ∧ SplitInfo s r := by
  induction d with
  | zero =>
    intro i hi hd hno
    have e : i = s.size := by omega
    subst e
    obtain ⟨a, b, hc⟩ := cut_miss s hs hno
    refine ⟨((⟨#[]⟩ : ByteArray), (⟨#[]⟩ : ByteArray), false), Ev.step (fun k => ?_) (Ev.now _), Ev.congr (fun k => ?_) (Ev.now _), .inl rfl⟩
    · simp only [spec_SplitName.l0]
      rw [if_neg (by omega)]
      try rfl
    · unfold restSplit
      rw [hc, Option.bind_some, if_neg (by simp)]
  | succ d ih =>
    intro i hi hd hno
    have hlt : i < s.size := by omega
    have hb := bt_data s i hlt
    have w1 : wrap64 ((i : Int) + 1) = ((i + 1 : Nat) : Int) := by rw [w64 (by omega) (by omega)]; omega
    have hg : s.data.toList[i]? = some (s.data.toList[i]'(by rw [← Go.Lib.size_eq]; exact hlt)) := List.getElem?_eq_getElem _
    generalize s.data.toList[i]'(by rw [← Go.Lib.size_eq]; exact hlt) = c at hb hg
    by_cases hc : c = 58
    · subst hc
      have hcut := cut_hit s hs i hlt hg hno
      obtain ⟨p, p1, p2⟩ := plain_same (s.extract 0 i) (by rw [ByteArray.size_extract]; omega)
      obtain ⟨q, q1, q2⟩ := plain_same (s.extract (i + 1) s.size) (by rw [ByteArray.size_extract]; omega)
      have hS : ∀ k, spec_SplitName.l0 (k + 1) s (i : Int) = (spec_PlainOk.f k (s.extract 0 i)).bind fun t122 => (if t122 = true then ((spec_PlainOk.f k (s.extract (i + 1) s.size)).bind fun t123 => (if t123 = true then (some (s.extract 0 i, s.extract (i + 1) s.size, true)) else (some ((⟨#[]⟩ : ByteArray), (⟨#[]⟩ : ByteArray), false)))) else (some ((⟨#[]⟩ : ByteArray), (⟨#[]⟩ : ByteArray), false))) := fun k => by
        simp only [spec_SplitName.l0]
        rw [if_pos (by omega), if_pos (by omega), hb, if_pos (by rfl), if_pos (by omega), w1, if_pos (by omega), if_pos (by omega)]
        simp only [Int.toNat_natCast]
      have hI : ∀ k, restSplit k s = (impl_PlainOk.f k (s.extract 0 i)).bind fun t122 => (if t122 = true then ((impl_PlainOk.f k (s.extract (i + 1) s.size)).bind fun t123 => (if t123 = true then (some (s.extract 0 i, s.extract (i + 1) s.size, true)) else (some ((⟨#[]⟩ : ByteArray), (⟨#[]⟩ : ByteArray), false)))) else (some ((⟨#[]⟩ : ByteArray), (⟨#[]⟩ : ByteArray), false))) := fun k => by
        unfold restSplit
        rw [hcut, Option.bind_some, if_pos rfl]
      cases p with
      | false => exact ⟨_, Ev.step hS (Ev.bind p1 (Ev.congr (fun k => by rw [if_neg (by simp)]) (Ev.now _))), Ev.congr hI (Ev.bind p2 (Ev.congr (fun k => by rw [if_neg (by simp)]) (Ev.now _))), .inl rfl⟩
      | true =>
        cases q with
        | false =>
          refine ⟨((⟨#[]⟩ : ByteArray), (⟨#[]⟩ : ByteArray), false), Ev.step hS (Ev.bind p1 (Ev.congr (fun k => by rw [if_pos rfl]) (Ev.bind q1 ?_))), Ev.congr hI (Ev.bind p2 (Ev.congr (fun k => by rw [if_pos rfl]) (Ev.bind q2 ?_))), .inl rfl⟩
          · exact Ev.congr (fun k => by rw [if_neg (by simp)]) (Ev.now _)
          · exact Ev.congr (fun k => by rw [if_neg (by simp)]) (Ev.now _)
        | true =>
          refine ⟨(s.extract 0 i, s.extract (i + 1) s.size, true), Ev.step hS (Ev.bind p1 (Ev.congr (fun k => by rw [if_pos rfl]) (Ev.bind q1 ?_))), Ev.congr hI (Ev.bind p2 (Ev.congr (fun k => by rw [if_pos rfl]) (Ev.bind q2 ?_))), .inr ⟨_, _, rfl, glue s i hg, p2, q2⟩⟩
          · exact Ev.congr (fun k => by rw [if_pos rfl]) (Ev.now _)
          · exact Ev.congr (fun k => by rw [if_pos rfl]) (Ev.now _)
    · obtain ⟨r, r1, r2, r3⟩ := ih (i + 1) (by omega) (by omega) (fun j hj => by
        by_cases e : j = i
        · subst e
          rw [hg]
          intro h
          exact hc (Option.some.inj h)
        · exact hno j (by omega))
      refine ⟨r, Ev.step (fun k => ?_) r1, r2, r3⟩
      simp only [spec_SplitName.l0]
      rw [if_pos (by omega), if_pos (by omega), hb, if_neg (nb (z := 58) hc rfl), w1]
theorem split_full (s : ByteArray) (hs : s.size ≤ 16777216) : ∃ r pl, Ev (fun k => spec_SplitName.f k s) r ∧ Ev (fun k => impl_SplitName.f k s) r ∧ Ev (fun k => impl_PlainOk.f k s) pl ∧ ((pl = true ∧ r = ((⟨#[]⟩ : ByteArray), s, true)) ∨ (pl = false ∧ SplitInfo s r)) := by
  obtain ⟨p, p1, p2⟩ := plain_same s hs
  obtain ⟨r, r1, r2, r3⟩ := split_l s hs s.size 0 (by omega) (by omega) (fun j hj => by omega)
  cases p with
  | true => exact ⟨((⟨#[]⟩ : ByteArray), s, true), true, Ev.congr (fun k => rfl) (Ev.bind p1 (Ev.congr (fun k => by rw [if_pos rfl]) (Ev.now _))), Ev.congr (fun k => rfl) (Ev.bind p2 (Ev.congr (fun k => by rw [if_pos rfl]) (Ev.now _))), p2, .inl ⟨rfl, rfl⟩⟩
  | false =>
    refine ⟨r, false, Ev.congr (fun k => rfl) (Ev.bind p1 (Ev.congr (fun k => by rw [if_neg (by simp)]; rfl) r1)), ?_, p2, .inr ⟨rfl, r3⟩⟩
    refine Ev.congr (f := fun k => (impl_PlainOk.f k s).bind fun t134 => if t134 = true then some ((⟨#[]⟩ : ByteArray), s, true) else restSplit k s) (fun k => rfl) (Ev.bind p2 (Ev.congr (fun k => by rw [if_neg (by simp)]) r2))
theorem split_same (s : ByteArray) (hs : s.size ≤ 16777216) : ∃ r, Ev (fun k => spec_SplitName.f k s) r ∧ Ev (fun k => impl_SplitName.f k s) r := by
  obtain ⟨r, _, h1, h2, _⟩ := split_full s hs
  exact ⟨r, h1, h2⟩
theorem join_same (a b : ByteArray) (ha : a.size ≤ 1048576) (hb : b.size ≤ 1048576) : ∃ r, Ev (fun k => spec_JoinName.f k a b) r ∧ Ev (fun k => impl_JoinName.f k a b) r := by
  by_cases h0 : a.toList = []
  · obtain ⟨r, r1, r2⟩ := split_same b (by omega)
    refine ⟨if r.2.2 = true then (if r.1.toList = a.toList then (if r.2.1.toList = b.toList then b else (⟨#[]⟩ : ByteArray)) else (⟨#[]⟩ : ByteArray)) else (⟨#[]⟩ : ByteArray), ?_, ?_⟩
    · refine Ev.congr (fun k => by simp only [spec_JoinName.f]; rw [if_pos h0]) (Ev.bind r1 (Ev.congr (f := fun _ => some _) (fun k => ?_) (Ev.now _)))
      repeat' split
      all_goals rfl
    · refine Ev.congr (fun k => by simp only [impl_JoinName.f]; rw [if_pos h0]) (Ev.bind r2 (Ev.congr (f := fun _ => some _) (fun k => ?_) (Ev.now _)))
      repeat' split
      all_goals rfl
  · have hz1 : (⟨#[58]⟩ : ByteArray).size = 1 := rfl
    have hz : (a ++ (⟨#[58]⟩ : ByteArray)).size = a.size + 1 := by rw [ByteArray.size_append, hz1]
    obtain ⟨r, r1, r2⟩ := split_same (a ++ (⟨#[58]⟩ : ByteArray) ++ b) (by rw [ByteArray.size_append, hz]; omega)
    refine ⟨if r.2.2 = true then (if r.1.toList = a.toList then (if r.2.1.toList = b.toList then (a ++ (⟨#[58]⟩ : ByteArray) ++ b) else (⟨#[]⟩ : ByteArray)) else (⟨#[]⟩ : ByteArray)) else (⟨#[]⟩ : ByteArray), ?_, ?_⟩
    · refine Ev.congr (fun k => by simp only [spec_JoinName.f]; rw [if_neg h0, if_pos (by omega), if_pos (by rw [hz]; omega)]) (Ev.bind r1 (Ev.congr (f := fun _ => some _) (fun k => ?_) (Ev.now _)))
      repeat' split
      all_goals rfl
    · refine Ev.congr (fun k => by simp only [impl_JoinName.f]; rw [if_neg h0, if_pos (by omega), if_pos (by rw [hz]; omega)]) (Ev.bind r2 (Ev.congr (f := fun _ => some _) (fun k => ?_) (Ev.now _)))
      repeat' split
      all_goals rfl
/-! ### what is drawn: the cursor (b, i, h): its place stays within, every draw comes to its end -/
theorem and255 (n : Int) : Go.bits .and .i64 n 255 = n % 256 := by
  have h63 : (BitVec.ofInt 64 255).toNat = 2 ^ 8 - 1 := by decide
  have key : (BitVec.ofInt 64 n &&& BitVec.ofInt 64 255).toNat = (n % ((2 ^ 64 : Nat) : Int)).toNat % 2 ^ 8 := by
    rw [BitVec.toNat_and, BitVec.toNat_ofInt, h63, Nat.and_two_pow_sub_one_eq_mod]
  show IntKind.i64.wrap ((BitVec.ofInt 64 n &&& BitVec.ofInt 64 255).toNat : Nat) = n % 256
  rw [key, IntKind.wrap_i64]
  omega
/-- The cursor's place is within. -/
def At (b : List Int) (i : Int) : Prop := b.length ≤ 1048576 ∧ 0 ≤ i ∧ i ≤ b.length
theorem l1New_l (b : List Int) (hb : b.length ≤ 1048576) (d : Nat) : ∀ (i : Nat) (h : Int), i ≤ b.length → b.length - i = d → ∃ h', Ev (fun k => spec_l1New.l0 k b h (i : Int)) (b, 0, h') := by
  induction d with
  | zero =>
    intro i h hi hd
    exact ⟨h, Ev.step (f := fun _ => some _) (fun k => by simp only [spec_l1New.l0]; rw [if_neg (by omega)]) (Ev.now _)⟩
  | succ d ih =>
    intro i h hi hd
    have w1 : wrap64 ((i : Int) + 1) = ((i + 1 : Nat) : Int) := by rw [w64 (by omega) (by omega)]; omega
    by_cases h4 : (i : Int) < 4000
    · obtain ⟨h', hh⟩ := ih (i + 1) _ (by omega) (by omega)
      exact ⟨h', Ev.step (fun k => by simp only [spec_l1New.l0]; rw [if_pos (by omega), if_pos h4, if_pos (by omega), w1]) hh⟩
    · exact ⟨h, Ev.step (f := fun _ => some _) (fun k => by simp only [spec_l1New.l0]; rw [if_pos (by omega), if_neg h4]) (Ev.now _)⟩
theorem l1New_f (b : List Int) (hb : b.length ≤ 1048576) : ∃ h, Ev (fun k => spec_l1New.f k b) (b, 0, h) := by
  obtain ⟨h, hh⟩ := l1New_l b hb b.length 0 _ (by omega) (by omega)
  exact ⟨h, hh⟩
theorem at0 (b : List Int) (hb : b.length ≤ 1048576) : At b 0 := ⟨hb, by omega, by omega⟩
theorem l1Byte_f (b : List Int) (i h : Int) (ha : At b i) : ∃ x i' h', spec_l1Byte.f b i h = some (x, i', h') ∧ 0 ≤ x ∧ x < 256 ∧ At b i' := by
  obtain ⟨hb, h0, h1⟩ := ha
  unfold spec_l1Byte.f
  by_cases hlt : i < (b.length : Int)
  · rw [if_pos hlt, if_pos h0, w64 (i := i + 1) (by omega) (by omega)]
    refine ⟨_, _, _, rfl, ?_, ?_, hb, by omega, by omega⟩
    all_goals (rw [and255]; omega)
  · rw [if_neg hlt]
    refine ⟨_, _, _, rfl, ?_, ?_, hb, h0, h1⟩
    all_goals (rw [and255]; omega)
theorem l1Below_f (b : List Int) (i h n : Int) (ha : At b i) (hn : 1 ≤ n) : ∃ x i' h', spec_l1Below.f b i h n = some (x, i', h') ∧ 0 ≤ x ∧ x < n ∧ At b i' := by
  unfold spec_l1Below.f
  rw [if_neg (by omega)]
  obtain ⟨x, i1, h1, e1, x0, x1, a1⟩ := l1Byte_f b i h ha
  by_cases hs : n ≤ 256
  · rw [if_pos hs, e1, Option.bind_some, if_neg (by omega)]
    exact ⟨_, _, _, rfl, Int.tmod_nonneg n x0, Int.tmod_lt_of_pos x (by omega), a1⟩
  · rw [if_neg hs, e1, Option.bind_some]
    obtain ⟨y, i2, h2, e2, y0, y1, a2⟩ := l1Byte_f b i1 h1 a1
    simp only
    rw [e2, Option.bind_some]
    obtain ⟨z, i3, h3, e3, z0, z1, a3⟩ := l1Byte_f b i2 h2 a2
    simp only
    rw [e3, Option.bind_some, if_neg (by omega)]
    refine ⟨_, _, _, rfl, Int.tmod_nonneg n ?_, Int.tmod_lt_of_pos _ (by omega), a3⟩
    rw [w64 (i := x * 65536) (by omega) (by omega), w64 (i := y * 256) (by omega) (by omega), w64 (i := x * 65536 + y * 256) (by omega) (by omega), w64 (i := x * 65536 + y * 256 + z) (by omega) (by omega)]
    omega
theorem l1Str_f (b : List Int) (i h : Int) (l : List ByteArray) (ha : At b i) (hl : 1 ≤ l.length) : ∃ x i' h', spec_l1Str.f b i h l = some (x, i', h') ∧ x ∈ l ∧ At b i' := by
  obtain ⟨x, i1, h1, e1, x0, x1, a1⟩ := l1Below_f b i h (l.length : Int) ha (by omega)
  unfold spec_l1Str.f
  rw [e1, Option.bind_some]
  simp only
  rw [if_pos x0, if_pos x1]
  refine ⟨_, _, _, rfl, ?_, a1⟩
  have hx : x.toNat < l.length := by omega
  unfold rdOf
  rw [List.getD_eq_getElem?_getD, List.getElem?_eq_getElem hx, Option.getD_some]
  exact List.getElem_mem hx
theorem l1Once_f (b : List Int) (i h n : Int) (ha : At b i) (hn : 1 ≤ n) : ∃ x i' h', spec_l1Once.f b i h n = some (x, i', h') ∧ At b i' := by
  obtain ⟨x, i1, h1, e1, x0, x1, a1⟩ := l1Below_f b i h n ha hn
  unfold spec_l1Once.f
  rw [e1, Option.bind_some]
  exact ⟨_, _, _, rfl, a1⟩
theorem l1Int_f (b : List Int) (i h : Int) (l : List Int) (ha : At b i) (hl : 1 ≤ l.length) : ∃ x i' h', spec_l1Int.f b i h l = some (x, i', h') ∧ x ∈ l ∧ At b i' := by
  obtain ⟨x, i1, h1, e1, x0, x1, a1⟩ := l1Below_f b i h (l.length : Int) ha (by omega)
  unfold spec_l1Int.f
  rw [e1, Option.bind_some]
  simp only
  rw [if_pos x0, if_pos x1]
  refine ⟨_, _, _, rfl, ?_, a1⟩
  have hx : x.toNat < l.length := by omega
  unfold rd
  rw [List.getD_eq_getElem?_getD, List.getElem?_eq_getElem hx, Option.getD_some]
  exact List.getElem_mem hx
theorem l2Name_f (b : List Int) (i h : Int) (ha : At b i) : ∃ x i' h', spec_l2Name.f b i h = some (x, i', h') ∧ x.size ≤ 40 ∧ At b i' := by
  obtain ⟨x, i1, h1, e1, hx, a1⟩ := l1Str_f b i h ([(⟨#[97]⟩ : ByteArray), (⟨#[98]⟩ : ByteArray), (⟨#[99]⟩ : ByteArray), (⟨#[105, 116, 101, 109]⟩ : ByteArray), (⟨#[112, 58, 97]⟩ : ByteArray), (⟨#[113, 58, 98]⟩ : ByteArray), (⟨#[112, 58, 120]⟩ : ByteArray), (⟨#[105, 100]⟩ : ByteArray)] : List ByteArray) ha (by simp)
  unfold spec_l2Name.f
  rw [e1, Option.bind_some]
  refine ⟨x, i1, h1, rfl, ?_, a1⟩
  simp only [List.mem_cons, List.not_mem_nil, or_false] at hx
  rcases hx with rfl | rfl | rfl | rfl | rfl | rfl | rfl | rfl <;> decide
theorem l2Any_f (b : List Int) (i h : Int) (ha : At b i) : ∃ x i' h', spec_l2Any.f b i h = some (x, i', h') ∧ x.size ≤ 40 ∧ At b i' := by
  obtain ⟨o, i0, h0, e0, a0⟩ := l1Once_f b i h 2 ha (by omega)
  unfold spec_l2Any.f
  rw [e0, Option.bind_some]
  cases o with
  | true =>
    obtain ⟨x, i1, h1, e1, hx, a1⟩ := l2Name_f b i0 h0 a0
    rw [if_pos rfl, e1, Option.bind_some]
    exact ⟨_, _, _, rfl, hx, a1⟩
  | false =>
    obtain ⟨x, i1, h1, e1, hx, a1⟩ := l1Str_f b i0 h0 ([(⟨#[]⟩ : ByteArray), (⟨#[195, 169, 116, 195, 169]⟩ : ByteArray), (⟨#[45, 97]⟩ : ByteArray), (⟨#[97, 45, 98, 46, 99]⟩ : ByteArray), (⟨#[49, 97]⟩ : ByteArray), (⟨#[97, 49]⟩ : ByteArray), (⟨#[97, 58, 98, 58, 99]⟩ : ByteArray), (⟨#[58, 97]⟩ : ByteArray), (⟨#[97, 58]⟩ : ByteArray), (⟨#[97, 32, 98]⟩ : ByteArray), (⟨#[115, 105, 120, 116, 101, 101, 110, 108, 101, 116, 116, 101, 114, 115, 95, 120]⟩ : ByteArray), (⟨#[115, 101, 118, 101, 110, 116, 101, 101, 110, 108, 101, 116, 116, 101, 114, 115, 120]⟩ : ByteArray), (⟨#[112, 58, 115, 105, 120, 116, 101, 101, 110, 108, 101, 116, 116, 101, 114, 115, 95, 120]⟩ : ByteArray), (⟨#[255]⟩ : ByteArray), (⟨#[95]⟩ : ByteArray), (⟨#[97, 204, 128]⟩ : ByteArray), (⟨#[204, 128]⟩ : ByteArray), (⟨#[97, 47, 98]⟩ : ByteArray)] : List ByteArray) a0 (by simp)
    rw [if_neg (by simp), e1, Option.bind_some]
    refine ⟨x, i1, h1, rfl, ?_, a1⟩
    simp only [List.mem_cons, List.not_mem_nil, or_false] at hx
    rcases hx with rfl | rfl | rfl | rfl | rfl | rfl | rfl | rfl | rfl | rfl | rfl | rfl | rfl | rfl | rfl | rfl | rfl | rfl <;> decide
theorem drawSplit_f (b : List Int) (hb : b.length ≤ 1048576) : ∃ r, Ev (fun k => spec_DrawSplitName.f k b) r ∧ r.size ≤ 40 := by
  obtain ⟨h, hn⟩ := l1New_f b hb
  obtain ⟨x, i', h', e, hx, ha⟩ := l2Any_f b 0 h (at0 b hb)
  exact ⟨x, Ev.congr (fun k => by simp only [spec_DrawSplitName.f]; rfl) (Ev.bind hn (Ev.congr (fun k => by simp only; rw [e, Option.bind_some]) (Ev.now _))), hx⟩
theorem drawJoin_f (b : List Int) (hb : b.length ≤ 1048576) : ∃ r : ByteArray × ByteArray, Ev (fun k => spec_DrawJoinName.f k b) r ∧ r.1.size ≤ 40 ∧ r.2.size ≤ 40 := by
  obtain ⟨h, hn⟩ := l1New_f b hb
  obtain ⟨y, i1, h1, e1, hy, a1⟩ := l1Str_f b 0 h ([(⟨#[]⟩ : ByteArray), (⟨#[]⟩ : ByteArray), (⟨#[112]⟩ : ByteArray), (⟨#[113]⟩ : ByteArray), (⟨#[49]⟩ : ByteArray), (⟨#[97, 58, 98]⟩ : ByteArray)] : List ByteArray) (at0 b hb) (by simp)
  obtain ⟨x, i', h', e, hx, ha⟩ := l2Any_f b i1 h1 a1
  refine ⟨(y, x), Ev.congr (fun k => by simp only [spec_DrawJoinName.f]; rfl) (Ev.bind hn (Ev.congr (fun k => by simp only; rw [e1, Option.bind_some]; simp only; rw [e, Option.bind_some]) (Ev.now _))), ?_, hx⟩
  show y.size ≤ 40
  simp only [List.mem_cons, List.not_mem_nil, or_false] at hy
  rcases hy with rfl | rfl | rfl | rfl | rfl | rfl <;> decide
theorem drawNameAt_f (b : List Int) (hb : b.length ≤ 1048576) : ∃ r : ByteArray × Int, Ev (fun k => spec_DrawNameAt.f k b) r ∧ r.1.size ≤ 80 := by
  obtain ⟨h, hn⟩ := l1New_f b hb
  obtain ⟨x, i1, h1, e, hx, a1⟩ := l2Any_f b 0 h (at0 b hb)
  obtain ⟨y, i2, h2, e2, hy, a2⟩ := l1Str_f b i1 h1 ([(⟨#[]⟩ : ByteArray), (⟨#[61]⟩ : ByteArray), (⟨#[32, 120]⟩ : ByteArray), (⟨#[62]⟩ : ByteArray), (⟨#[47]⟩ : ByteArray), (⟨#[255]⟩ : ByteArray)] : List ByteArray) a1 (by simp)
  obtain ⟨z, i3, h3, e3, _, a3⟩ := l1Int_f b i2 h2 ([0, 0, 1, 2, (-1), 40] : List Int) a2 (by simp)
  have hz : y.size ≤ 2 := by
    simp only [List.mem_cons, List.not_mem_nil, or_false] at hy
    rcases hy with rfl | rfl | rfl | rfl | rfl | rfl <;> decide
  refine ⟨(x ++ y, z), Ev.congr (fun k => by simp only [spec_DrawNameAt.f]; rfl) (Ev.bind hn (Ev.congr (fun k => by simp only; rw [e, Option.bind_some]; simp only; rw [e2, Option.bind_some]; simp only; rw [if_pos (by omega), e3, Option.bind_some]) (Ev.now _))), ?_⟩
  show (x ++ y).size ≤ 80
  rw [ByteArray.size_append]
  omega
theorem toList_nil {x : ByteArray} (h : x.toList = []) : x.size = 0 := by
  rw [Go.Lib.toList_data] at h
  rw [Go.Lib.size_eq, h]
  rfl
theorem plain_pos (s : ByteArray) (hs : s.size ≤ 16777216) (h : Ev (fun k => impl_PlainOk.f k s) true) : 1 ≤ s.size := by
  obtain ⟨r, _, h2⟩ := plain_l s hs s.size 0 (by omega) (by omega) (by omega)
  have e := Ev.unique h h2
  refine Nat.le_of_not_lt (fun hlt => ?_)
  have hz : inR s.size (1, 16) = false := by
    unfold inR
    rw [decide_eq_false (by simp only; omega)]
    rfl
  rw [hz, Bool.and_false] at e
  cases e
/-- The last of what is asked: whether a part ahead is there, and what the parts are. -/
def tailN (k : Nat) (s p l : ByteArray) (ok : Bool) : Option Bool := (impl_PlainOk.f k s).bind fun t384 => (if ok = true then (if (t384 == (p.toList == ([] : List UInt8))) = true then (if p.toList = ([] : List UInt8) then (some true) else ((impl_PlainOk.f k p).bind fun t385 => (if t385 = true then ((impl_PlainOk.f k l).bind fun t386 => (some t386)) else (some false)))) else (some false)) else (if (t384 == false) = true then (if p.toList = ([] : List UInt8) then (some true) else ((impl_PlainOk.f k p).bind fun t387 => (if t387 = true then ((impl_PlainOk.f k l).bind fun t388 => (some t388)) else (some false)))) else (some false)))
theorem em : (⟨#[]⟩ : ByteArray).toList = [] := by rw [Go.Lib.toList_data]
theorem join_full (a b : ByteArray) (ha : a.size ≤ 1048576) (hb : b.size ≤ 1048576) : ∃ r, r.size ≤ 16777216 ∧ Ev (fun k => spec_JoinName.f k a b) r ∧ Ev (fun k => impl_JoinName.f k a b) r ∧
    (r = (⟨#[]⟩ : ByteArray) ∨ ∃ q, Ev (fun k => impl_SplitName.f k r) q ∧ q.2.2 = true ∧ q.1.toList = a.toList ∧ q.2.1.toList = b.toList) := by
  have key : ∀ s : ByteArray, s.size ≤ 16777216 → (∀ k, spec_JoinName.f k a b = (spec_SplitName.f k s).bind fun bt => (if bt.2.2 = true then (if bt.1.toList = a.toList then (if bt.2.1.toList = b.toList then (some s) else (some (⟨#[]⟩ : ByteArray))) else (some (⟨#[]⟩ : ByteArray))) else (some (⟨#[]⟩ : ByteArray)))) →
      (∀ k, impl_JoinName.f k a b = (impl_SplitName.f k s).bind fun bt => (if bt.2.2 = true then (if bt.1.toList = a.toList then (if bt.2.1.toList = b.toList then (some s) else (some (⟨#[]⟩ : ByteArray))) else (some (⟨#[]⟩ : ByteArray))) else (some (⟨#[]⟩ : ByteArray)))) →
      ∃ r, r.size ≤ 16777216 ∧ Ev (fun k => spec_JoinName.f k a b) r ∧ Ev (fun k => impl_JoinName.f k a b) r ∧ (r = (⟨#[]⟩ : ByteArray) ∨ ∃ q, Ev (fun k => impl_SplitName.f k r) q ∧ q.2.2 = true ∧ q.1.toList = a.toList ∧ q.2.1.toList = b.toList) := by
    intro s hs h1 h2
    obtain ⟨q, q1, q2⟩ := split_same s hs
    by_cases c1 : q.2.2 = true
    · by_cases c2 : q.1.toList = a.toList
      · by_cases c3 : q.2.1.toList = b.toList
        · exact ⟨s, hs, Ev.congr h1 (Ev.bind q1 (Ev.congr (fun k => by rw [if_pos c1, if_pos c2, if_pos c3]) (Ev.now _))), Ev.congr h2 (Ev.bind q2 (Ev.congr (fun k => by rw [if_pos c1, if_pos c2, if_pos c3]) (Ev.now _))), .inr ⟨q, q2, c1, c2, c3⟩⟩
        · exact ⟨_, by decide, Ev.congr h1 (Ev.bind q1 (Ev.congr (fun k => by rw [if_pos c1, if_pos c2, if_neg c3]) (Ev.now _))), Ev.congr h2 (Ev.bind q2 (Ev.congr (fun k => by rw [if_pos c1, if_pos c2, if_neg c3]) (Ev.now _))), .inl rfl⟩
      · exact ⟨_, by decide, Ev.congr h1 (Ev.bind q1 (Ev.congr (fun k => by rw [if_pos c1, if_neg c2]) (Ev.now _))), Ev.congr h2 (Ev.bind q2 (Ev.congr (fun k => by rw [if_pos c1, if_neg c2]) (Ev.now _))), .inl rfl⟩
    · exact ⟨_, by decide, Ev.congr h1 (Ev.bind q1 (Ev.congr (fun k => by rw [if_neg c1]) (Ev.now _))), Ev.congr h2 (Ev.bind q2 (Ev.congr (fun k => by rw [if_neg c1]) (Ev.now _))), .inl rfl⟩
  by_cases h0 : a.toList = []
  · exact key b (by omega) (fun k => by simp only [spec_JoinName.f]; rw [if_pos h0]) (fun k => by simp only [impl_JoinName.f]; rw [if_pos h0])
  · have hz1 : (⟨#[58]⟩ : ByteArray).size = 1 := rfl
    have hz : (a ++ (⟨#[58]⟩ : ByteArray)).size = a.size + 1 := by rw [ByteArray.size_append, hz1]
    exact key (a ++ (⟨#[58]⟩ : ByteArray) ++ b) (by rw [ByteArray.size_append, hz]; omega) (fun k => by simp only [spec_JoinName.f]; rw [if_neg h0, if_pos (by omega), if_pos (by rw [hz]; omega)]) (fun k => by simp only [impl_JoinName.f]; rw [if_neg h0, if_pos (by omega), if_pos (by rw [hz]; omega)])
/-- What is told of a name's parts: they are put together again, and they are what they are. -/
theorem parts (s : ByteArray) (hs : s.size ≤ 1048576) : ∃ r, Ev (fun k => impl_SplitName.f k s) r ∧ (r.2.2 = true → Ev (fun k => impl_JoinName.f k r.1 r.2.1) s) ∧ (r.2.2 = false → r.1.toList = [] ∧ r.2.1.toList = []) ∧ Ev (fun k => tailN k s r.1 r.2.1 r.2.2) true := by
  obtain ⟨r, pl, _, r2, p2, hc⟩ := split_full s (by omega)
  rcases hc with ⟨rfl, rfl⟩ | ⟨rfl, hc⟩
  · refine ⟨_, r2, fun _ => ?_, (fun h => by cases h), ?_⟩
    · refine Ev.congr (fun k => by simp only [impl_JoinName.f]; rw [if_pos em]) (Ev.bind r2 (Ev.congr (fun k => by rw [if_pos rfl, if_pos rfl, if_pos rfl]) (Ev.now _)))
    · refine Ev.congr (fun k => by unfold tailN; rfl) (Ev.bind p2 (Ev.congr (fun k => ?_) (Ev.now true)))
      rw [if_pos rfl, em, if_pos (by rfl), if_pos rfl]
  · rcases hc with rfl | ⟨p, l, rfl, hg, h1, h2⟩
    · refine ⟨_, r2, (fun h => by cases h), (fun _ => ⟨em, em⟩), ?_⟩
      refine Ev.congr (fun k => by unfold tailN; rfl) (Ev.bind p2 (Ev.congr (fun k => ?_) (Ev.now true)))
      rw [if_neg (by simp), if_pos (by rfl), if_pos em]
    · have hz1 : (⟨#[58]⟩ : ByteArray).size = 1 := rfl
      have hz : (p ++ (⟨#[58]⟩ : ByteArray) ++ l).size = p.size + 1 + l.size := by rw [ByteArray.size_append, ByteArray.size_append, hz1]
      have hzs : p.size + 1 + l.size = s.size := by rw [← hz, hg]
      have hp := plain_pos p (by omega) h1
      have hne : ¬ p.toList = [] := fun h => by
        have := toList_nil h
        omega
      refine ⟨_, r2, fun _ => ?_, (fun h => by cases h), ?_⟩
      · refine Ev.congr (fun k => by simp only [impl_JoinName.f]; rw [if_neg hne, if_pos (by omega), if_pos (by rw [ByteArray.size_append, hz1]; omega), hg]) (Ev.bind r2 (Ev.congr (fun k => by rw [if_pos rfl, if_pos rfl, if_pos rfl]) (Ev.now _)))
      · refine Ev.congr (fun k => by unfold tailN; rfl) (Ev.bind p2 ?_)
        have hb : (p.toList == ([] : List UInt8)) = false := by simpa using hne
        refine Ev.congr (fun k => by rw [if_pos rfl, hb, if_pos (by rfl), if_neg hne]) (Ev.bind h1 ?_)
        exact Ev.congr (fun k => by rw [if_pos rfl]) (Ev.bind h2 (Ev.now _))
theorem FnNames : laws_FnNames.Pure := by
  intro b hb
  by_cases hbig : (b.length : Int) > 1048576
  · exact ⟨0, by simp only [laws_FnNames.f, laws_big.f]; rw [Option.bind_some, if_pos (decide_eq_true hbig)]⟩
  obtain ⟨s, d1, z1⟩ := drawSplit_f b (by omega)
  obtain ⟨r, s1, s2, s3, s4⟩ := parts s (by omega)
  obtain ⟨⟨x, y⟩, d2, z2, z3⟩ := drawJoin_f b (by omega)
  simp only at z2 z3
  obtain ⟨j, jz, j1, j2, j3⟩ := join_full x y (by omega) (by omega)
  obtain ⟨q, qp, _, q2, qp2, qi⟩ := split_full j jz
  obtain ⟨⟨t, i⟩, d3, z4⟩ := drawNameAt_f b (by omega)
  simp only at z4
  obtain ⟨n, n1, n2⟩ := name_same t (by omega) i
  obtain ⟨p, l, ok⟩ := r
  obtain ⟨u, m, is⟩ := q
  simp only at s2 s3 s4
  -- the part on what is put together
  have hj : (j.toList = [] → is = false) ∧ (¬ j.toList = [] → is = true ∧ u.toList = x.toList ∧ m.toList = y.toList) := by
    constructor
    · intro h
      have hz := toList_nil h
      rcases qi with ⟨rfl, _⟩ | ⟨_, qi⟩
      · have := plain_pos j jz qp2
        omega
      · rcases qi with h | ⟨p', l', h, hg, _⟩
        · exact (Prod.mk.inj (Prod.mk.inj h).2).2
        · have hz1 : (⟨#[58]⟩ : ByteArray).size = 1 := rfl
          have : (p' ++ (⟨#[58]⟩ : ByteArray) ++ l').size = p'.size + 1 + l'.size := by rw [ByteArray.size_append, ByteArray.size_append, hz1]
          rw [hg] at this
          omega
    · intro h
      rcases j3 with rfl | ⟨q', h1, h2, h3, h4⟩
      · exact absurd em h
      · have e := Ev.unique q2 h1
        subst e
        exact ⟨h2, h3, h4⟩
  have hj0 : Ev (fun k => laws_FnNames.j0 k s p l ok x y j u m is false) true := by
    refine Ev.step (f := fun k => tailN k s p l ok) (fun k => ?_) s4
    simp only [laws_FnNames.j0]
    rw [if_neg (by simp)]
    by_cases h : j.toList = []
    · have := hj.1 h
      subst this
      rw [if_pos h, if_neg (by simp)]
      rfl
    · obtain ⟨rfl, h2, h3⟩ := hj.2 h
      rw [if_neg h, if_pos rfl, if_pos h2, if_pos h3]
      rfl
  have hbne : (j.toList != j.toList) = false := by simp
  refine Ev.rounds (r := true) ?_
  refine Ev.congr (fun k => by simp only [laws_FnNames.f, laws_big.f]; rw [Option.bind_some, if_neg (by simpa using hbig)]) ?_
  refine Ev.bind d1 ?_
  refine Ev.bind s1 ?_
  refine Ev.bind d2 ?_
  refine Ev.bind j2 ?_
  refine Ev.bind q2 ?_
  refine Ev.bind d3 ?_
  refine Ev.bind n2 ?_
  refine Ev.bind n1 ?_
  cases ok with
  | true =>
    refine Ev.congr (fun k => by simp only; rw [if_pos trivial]) (Ev.bind (s2 rfl) ?_)
    refine Ev.congr (fun k => by rw [if_pos rfl, if_pos trivial, if_pos trivial]) (Ev.bind j1 ?_)
    exact Ev.congr (fun k => by rw [hbne]) hj0
  | false =>
    obtain ⟨e1, e2⟩ := s3 rfl
    refine Ev.congr (fun k => by simp only; rw [if_neg (by simp), if_pos e1, if_pos e2, if_pos trivial, if_pos trivial]) (Ev.bind j1 ?_)
    exact Ev.congr (fun k => by rw [hbne]) hj0

end FnNames_
theorem FnNames : laws_FnNames.Pure := FnNames_.FnNames
end Go.Proofs.YtgchgcfjbjopkaaDoor.Pure
