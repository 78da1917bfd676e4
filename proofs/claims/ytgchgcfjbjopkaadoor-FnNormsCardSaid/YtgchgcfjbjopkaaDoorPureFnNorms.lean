/- What is drawn for Norm: the program's Norm leaves no carriage return, is the reference's, is its own, and grows nothing.
Conditions: none. -/
import Derived.Test.YtgchgcfjbjopkaaDoorSaidFnNorms
import Derived.Lib.ReplaceLaws
import Derived.Lib.Strings
namespace Go.Proofs.YtgchgcfjbjopkaaDoor.Pure
open Go.RowKit Go.Proofs.YtgchgcfjbjopkaaDoor.PN Go.Proofs.YtgchgcfjbjopkaaDoorW.PrintWords Go.Proofs.YtgchgcfjbjopkaaDoorW.PrintLast
set_option linter.unusedVariables false
set_option linter.unusedSimpArgs false

namespace FnNorms_
theorem w64 {i : Int} (h0 : -9223372036854775808 ≤ i) (h1 : i ≤ 9223372036854775807) : wrap64 i = i := by unfold wrap64; omega
/-! ### Go.Lib.replaceAll, byte by byte -/
section
open Go.Lib (index count replaceK replaceAll)
theorem replaceK_more (old new : List UInt8) (ho : old ≠ []) : ∀ (k : Nat) (s : List UInt8), count s old ≤ k → replaceK old new k s = replaceK old new (count s old) s
  | k, s, h => by
    by_cases hm : index s old = -1
    · rw [Go.Lib.count_miss hm]
      cases k with
      | zero => rfl
      | succ k => simp [replaceK, hm]
    · have hge := Go.Lib.index_ge s old
      obtain ⟨i, hi⟩ : ∃ i : Nat, index s old = i := ⟨(index s old).toNat, by omega⟩
      have hc := Go.Lib.count_hit ho hi
      cases k with
      | zero => omega
      | succ k =>
        rw [hc, Nat.add_comm 1, Go.Lib.replaceK_hit old new k s i hi, Go.Lib.replaceK_hit old new _ s i hi, replaceK_more old new ho k _ (by omega)]
theorem index_cons_miss (c : UInt8) (l old : List UInt8) (h : old.isPrefixOf (c :: l) = false) : index (c :: l) old = if index l old == -1 then -1 else index l old + 1 := by
  simp [index, h]
theorem index_cons_hit (c : UInt8) (l old : List UInt8) (h : old.isPrefixOf (c :: l) = true) : index (c :: l) old = 0 := by
  simp [index, h]
theorem count_cons_miss (c : UInt8) (l old : List UInt8) (ho : old ≠ []) (h : old.isPrefixOf (c :: l) = false) : count (c :: l) old = count l old := by
  have hi := index_cons_miss c l old h
  by_cases hm : index l old = -1
  · rw [Go.Lib.count_miss hm, Go.Lib.count_miss (by rw [hi, hm]; rfl)]
  · have hge := Go.Lib.index_ge l old
    obtain ⟨i, hl⟩ : ∃ i : Nat, index l old = i := ⟨(index l old).toNat, by omega⟩
    have hcl : index (c :: l) old = ((i + 1 : Nat) : Int) := by
      rw [hi, if_neg (by simpa using hm), hl]
      omega
    rw [Go.Lib.count_hit ho hl, Go.Lib.count_hit ho hcl, show i + 1 + old.length = (i + old.length) + 1 by omega, List.drop_succ_cons]
theorem replaceK_cons_miss (c : UInt8) (l old new : List UInt8) (h : old.isPrefixOf (c :: l) = false) : ∀ n, replaceK old new n (c :: l) = c :: replaceK old new n l
  | 0 => rfl
  | n + 1 => by
    have hi := index_cons_miss c l old h
    by_cases hm : index l old = -1
    · have hm' : index (c :: l) old = -1 := by rw [hi, hm]; rfl
      simp [replaceK, hm, hm']
    · have hge := Go.Lib.index_ge l old
      obtain ⟨i, hl⟩ : ∃ i : Nat, index l old = i := ⟨(index l old).toNat, by omega⟩
      have hcl : index (c :: l) old = ((i + 1 : Nat) : Int) := by
        rw [hi, if_neg (by simpa using hm), hl]
        omega
      rw [Go.Lib.replaceK_hit old new n l i hl, Go.Lib.replaceK_hit old new n (c :: l) (i + 1) hcl, show i + 1 + old.length = (i + old.length) + 1 by omega, List.drop_succ_cons, List.take_succ_cons]
      rfl
theorem replaceAll_nil (old new : List UInt8) (ho : old ≠ []) (hn : old ≠ new) : replaceAll [] old new = [] := by
  unfold replaceAll Go.Lib.replace
  rw [if_neg (by simpa using hn)]
  have hm : index [] old = -1 := by
    cases old with
    | nil => exact absurd rfl ho
    | cons a t => rfl
  cases Go.Lib.replaceNum [] old (-1) with
  | zero => rfl
  | succ n => simp [replaceK, hm]
theorem replaceAll_eq (old new : List UInt8) (hn : old ≠ new) (s : List UInt8) : replaceAll s old new = replaceK old new (count s old) s := by
  unfold replaceAll Go.Lib.replace Go.Lib.replaceNum
  rw [if_neg (by simpa using hn), if_pos (.inl (by decide))]
theorem replaceAll_miss (old new : List UInt8) (ho : old ≠ []) (hn : old ≠ new) (c : UInt8) (l : List UInt8) (h : old.isPrefixOf (c :: l) = false) : replaceAll (c :: l) old new = c :: replaceAll l old new := by
  rw [replaceAll_eq old new hn, replaceAll_eq old new hn, count_cons_miss c l old ho h, replaceK_cons_miss c l old new h]
theorem replaceAll_hit (old new : List UInt8) (ho : old ≠ []) (hn : old ≠ new) (c : UInt8) (l : List UInt8) (h : old.isPrefixOf (c :: l) = true) : replaceAll (c :: l) old new = new ++ replaceAll ((c :: l).drop old.length) old new := by
  have hi : index (c :: l) old = ((0 : Nat) : Int) := index_cons_hit c l old h
  rw [replaceAll_eq old new hn, replaceAll_eq old new hn, Go.Lib.count_hit ho hi, Nat.add_comm 1, Go.Lib.replaceK_hit old new _ _ 0 hi]
  simp
/-- One byte, replaced everywhere. -/
theorem replaceAll_one (b : UInt8) (new : List UInt8) (hn : [b] ≠ new) : ∀ s : List UInt8, replaceAll s [b] new = s.flatMap fun c => if c = b then new else [c]
  | [] => replaceAll_nil [b] new (by simp) hn
  | c :: l => by
    rw [List.flatMap_cons, ← replaceAll_one b new hn l]
    by_cases h : c = b
    · subst h
      rw [if_pos rfl, replaceAll_hit [c] new (by simp) hn c l (by simp [List.isPrefixOf])]
      rfl
    · rw [if_neg h, replaceAll_miss [b] new (by simp) hn c l (by simp [List.isPrefixOf, Ne.symm h])]
      rfl
end
/-- The lines' ends, in one way. -/
def norm : List UInt8 → List UInt8
  | [] => []
  | c :: l => if c = 13 then (if l.head? = some 10 then norm l else 10 :: norm l) else c :: norm l
theorem norm_replace : ∀ (n : Nat) (s : List UInt8), s.length ≤ n → Go.Lib.replaceAll (Go.Lib.replaceAll s [13, 10] [10]) [13] [10] = norm s
  | 0, s, h => by
    obtain rfl : s = [] := List.length_eq_zero_iff.1 (by omega)
    rw [replaceAll_nil _ _ (by simp) (by simp), replaceAll_nil _ _ (by simp) (by simp)]
    rfl
  | n + 1, [], _ => by
    rw [replaceAll_nil _ _ (by simp) (by simp), replaceAll_nil _ _ (by simp) (by simp)]
    rfl
  | n + 1, c :: l, h => by
    have h' : l.length ≤ n := by simpa using h
    unfold norm
    by_cases hc : c = 13
    · subst hc
      rw [if_pos rfl]
      cases l with
      | nil =>
        rw [replaceAll_miss [13, 10] [10] (by simp) (by simp) 13 [] (by simp [List.isPrefixOf]), replaceAll_nil _ _ (by simp) (by simp), replaceAll_hit [13] [10] (by simp) (by simp) 13 [] (by simp [List.isPrefixOf])]
        simp [norm, replaceAll_nil [13] [10] (by simp) (by simp)]
      | cons d l =>
        by_cases hd : d = 10
        · subst hd
          rw [if_pos (by simp), replaceAll_hit [13, 10] [10] (by simp) (by simp) 13 (10 :: l) (by simp [List.isPrefixOf])]
          have hl : l.length ≤ n := by simp at h'; omega
          have ih := norm_replace n l hl
          rw [show ([10] ++ Go.Lib.replaceAll ((13 :: 10 :: l).drop ([13, 10] : List UInt8).length) [13, 10] [10]) = 10 :: Go.Lib.replaceAll l [13, 10] [10] from rfl, replaceAll_miss [13] [10] (by simp) (by simp) 10 _ (by simp [List.isPrefixOf]), ih]
          simp [norm]
        · rw [if_neg (by simpa using hd), replaceAll_miss [13, 10] [10] (by simp) (by simp) 13 (d :: l) (by simp [List.isPrefixOf, Ne.symm hd]), replaceAll_hit [13] [10] (by simp) (by simp) 13 _ (by simp [List.isPrefixOf]), show (13 :: Go.Lib.replaceAll (d :: l) [13, 10] [10]).drop ([13] : List UInt8).length = Go.Lib.replaceAll (d :: l) [13, 10] [10] from rfl, norm_replace n (d :: l) h']
          rfl
    · rw [if_neg hc, replaceAll_miss [13, 10] [10] (by simp) (by simp) c l (by simp [List.isPrefixOf, Ne.symm hc]), replaceAll_miss [13] [10] (by simp) (by simp) c _ (by simp [List.isPrefixOf, Ne.symm hc]), norm_replace n l h']
theorem first_le : ∀ (n : Nat) (s : List UInt8), s.length ≤ n → (Go.Lib.replaceAll s [13, 10] [10]).length ≤ s.length
  | _, [], _ => by rw [replaceAll_nil _ _ (by simp) (by simp)]; exact Nat.le_refl _
  | 0, c :: l, h => by simp at h
  | n + 1, c :: l, h => by
    have h' : l.length ≤ n := by simpa using h
    cases hp : ([13, 10] : List UInt8).isPrefixOf (c :: l) with
    | false =>
      rw [replaceAll_miss [13, 10] [10] (by simp) (by simp) c l hp]
      have := first_le n l h'
      simp only [List.length_cons]
      omega
    | true =>
      rw [replaceAll_hit [13, 10] [10] (by simp) (by simp) c l hp, show ([13, 10] : List UInt8).length = 2 from rfl]
      have := first_le n ((c :: l).drop 2) (by simp; omega)
      simp only [List.length_append, List.length_cons, List.length_nil, List.length_drop] at this ⊢
      omega
theorem bt_data (s : ByteArray) (i : Nat) (h : i < s.size) : bt s (i : Int) = ((s.data.toList[i]'(by rw [← Go.Lib.size_eq]; exact h)).toNat : Int) := by
  unfold bt
  rw [dif_pos (by simpa using h)]
  simp only [Int.toNat_natCast]
  rfl
def nums (l : List UInt8) : List Int := l.map fun c => (c.toNat : Int)
theorem strOf_nums (l : List UInt8) : strOfNums (nums l) = ⟨l.toArray⟩ := by
  unfold strOfNums nums
  rw [List.map_map]
  have : l.map ((fun n : Int => UInt8.ofNat n.toNat) ∘ fun c => (c.toNat : Int)) = l := by
    conv => rhs; rw [← List.map_id l]
    apply List.map_congr_left
    intro c _
    simp
  rw [this]
theorem byte_eq (c : UInt8) (n : Nat) (h : n < 256) : ((c.toNat : Int) = (n : Int)) ↔ c = UInt8.ofNat n := by
  constructor
  · intro e
    have : c.toNat = n := by omega
    rw [← this]; simp
  · intro e
    rw [e]
    simp
    omega
theorem specNorm_l (s : ByteArray) (hs : s.size ≤ 1048576) (d : Nat) : ∀ (i : Nat) (x : List Int), i ≤ s.size → s.size - i = d → x.length ≤ i → Ev (fun k => spec_Norm.l0 k s x (i : Int)) (strOfNums (x ++ nums (norm (s.data.toList.drop i)))) := by
  have hlen := Go.Lib.size_eq s
  induction d with
  | zero =>
    intro i x hi hd hx
    have e : s.data.toList.drop i = [] := List.drop_eq_nil_of_le (by omega)
    rw [e]
    refine Ev.step (f := fun _ => some _) (fun k => ?_) (Ev.now _)
    simp only [spec_Norm.l0]
    rw [if_neg (by omega)]
    simp [norm, nums]
  | succ d ih =>
    intro i x hi hd hx
    have hlt : i < s.size := by omega
    have hb := bt_data s i hlt
    have e : s.data.toList.drop i = s.data.toList[i] :: s.data.toList.drop (i + 1) := List.drop_eq_getElem_cons (by omega)
    have w1 : wrap64 ((i : Int) + 1) = ((i + 1 : Nat) : Int) := by rw [w64 (by omega) (by omega)]; omega
    have hpush : ∀ v : Int, Ev (fun k => spec_Norm.l0 k s (x ++ [v]) ((i + 1 : Nat) : Int)) (strOfNums (x ++ v :: nums (norm (s.data.toList.drop (i + 1))))) := fun v => by
      have := ih (i + 1) (x ++ [v]) (by omega) (by omega) (by simp; omega)
      simpa using this
    have hx0 : x.length < 140737488355328 := by omega
    rw [e]
    unfold norm
    generalize hc : s.data.toList[i] = c at hb
    by_cases h13 : c = 13
    · have hb13 : bt s (i : Int) = 13 := by rw [hb, h13]; rfl
      rw [if_pos h13]
      by_cases hend : i + 1 = s.size
      · have e2 : s.data.toList.drop (i + 1) = [] := List.drop_eq_nil_of_le (by omega)
        have := hpush 10
        rw [e2] at this ⊢
        rw [if_neg (by simp)]
        refine Ev.step (fun k => ?_) this
        simp only [spec_Norm.l0]
        rw [if_pos (by omega), if_pos (by omega), if_pos hb13, w1, if_pos (by omega), if_pos hx0]
      · have hlt2 : i + 1 < s.size := by omega
        have hb2 := bt_data s (i + 1) hlt2
        have e2 : (s.data.toList.drop (i + 1)).head? = some s.data.toList[i + 1] := by
          rw [List.drop_eq_getElem_cons (by omega)]
          rfl
        generalize hc2 : s.data.toList[i + 1] = c2 at hb2 e2
        by_cases h10 : c2 = 10
        · rw [e2, if_pos (by rw [h10])]
          refine Ev.step (fun k => ?_) (ih (i + 1) x (by omega) (by omega) (by omega))
          simp only [spec_Norm.l0]
          rw [if_pos (by omega), if_pos (by omega), if_pos hb13, w1, if_neg (by omega), if_pos (by omega), if_pos (by omega), hb2, if_pos (by rw [h10]; rfl)]
        · rw [e2, if_neg (by simpa using h10)]
          refine Ev.step (fun k => ?_) (hpush 10)
          simp only [spec_Norm.l0]
          rw [if_pos (by omega), if_pos (by omega), if_pos hb13, w1, if_neg (by omega), if_pos (by omega), if_pos (by omega), hb2, if_neg (fun h : ((c2.toNat : Int) = 10) => h10 ((byte_eq c2 10 (by omega)).1 h)), if_pos hx0]
    · rw [if_neg h13]
      refine Ev.step (fun k => ?_) (hpush (c.toNat : Int))
      simp only [spec_Norm.l0]
      rw [if_pos (by omega), if_pos (by omega), hb, if_neg (fun h : ((c.toNat : Int) = 13) => h13 ((byte_eq c 13 (by omega)).1 h)), if_pos hx0, w1]
theorem specNorm_f (s : ByteArray) (hs : s.size ≤ 1048576) : Ev (fun k => spec_Norm.f k s) ⟨(norm s.data.toList).toArray⟩ := by
  have := specNorm_l s hs s.size 0 [] (by omega) (by omega) (by simp)
  rw [List.drop_zero, List.nil_append, strOf_nums] at this
  exact this
theorem implNorm_f (s : ByteArray) (hs : s.size ≤ 1048576) : impl_Norm.f s = some ⟨(norm s.data.toList).toArray⟩ := by
  unfold impl_Norm.f strings_ReplaceAll.f
  have hlen := Go.Lib.size_eq s
  have c1 := Go.Lib.countB_mul_le (⟨#[13, 10]⟩ : ByteArray) (by decide) s.size s (Nat.le_refl _)
  have z1 : (⟨#[13, 10]⟩ : ByteArray).size = 2 := rfl
  have z2 : (⟨#[10]⟩ : ByteArray).size = 1 := rfl
  have z3 : (⟨#[13]⟩ : ByteArray).size = 1 := rfl
  rw [z1] at c1
  rw [z1, z2, z3, if_pos ⟨by omega, by omega, by omega⟩, Option.bind_some]
  have hle := first_le _ s.data.toList (Nat.le_refl _)
  have e1 : (⟨#[13, 10]⟩ : ByteArray).data.toList = [13, 10] := rfl
  have e2 : (⟨#[10]⟩ : ByteArray).data.toList = [10] := rfl
  have e3 : (⟨#[13]⟩ : ByteArray).data.toList = [13] := rfl
  rw [e1, e2, e3]
  have hr := norm_replace _ s.data.toList (Nat.le_refl _)
  generalize Go.Lib.replaceAll s.data.toList [13, 10] [10] = m at hle hr
  have hsz : (⟨m.toArray⟩ : ByteArray).size = m.length := by rw [Go.Lib.size_eq]
  have c2 := Go.Lib.countB_mul_le (⟨#[13]⟩ : ByteArray) (by decide) _ (⟨m.toArray⟩ : ByteArray) (Nat.le_refl _)
  rw [z3, hsz] at c2
  rw [hsz, if_pos ⟨by omega, by omega, by omega⟩, Option.bind_some, hr]
/-! ### what is drawn: the cursor (b, i, h): its place stays within, every draw comes to its end -/
theorem and255 (n : Int) : Go.bits .and .i64 n 255 = n % 256 := by
  have h63 : (BitVec.ofInt 64 255).toNat = 2 ^ 8 - 1 := by decide
  have key : (BitVec.ofInt 64 n &&& BitVec.ofInt 64 255).toNat = (n % ((2 ^ 64 : Nat) : Int)).toNat % 2 ^ 8 := by
    rw [BitVec.toNat_and, BitVec.toNat_ofInt, h63, Nat.and_two_pow_sub_one_eq_mod]
  show IntKind.i64.wrap ((BitVec.ofInt 64 n &&& BitVec.ofInt 64 255).toNat : Nat) = n % 256
  rw [key, IntKind.wrap_i64]
  omega
/-- The cursor's place is within. -/
def At (b : List Int) (i : Int) : Prop := b.length ≤ 1048576 ∧ 0 ≤ i ∧ i ≤ b.length
theorem l1New_l (b : List Int) (hb : b.length ≤ 1048576) (d : Nat) : ∀ (i : Nat) (h : Int), i ≤ b.length → b.length - i = d → ∃ h', Ev (fun k => spec_l1New.l0 k b h (i : Int)) (b, 0, h') := by
  induction d with
  | zero =>
    intro i h hi hd
    exact ⟨h, Ev.step (f := fun _ => some _) (fun k => by simp only [spec_l1New.l0]; rw [if_neg (by omega)]) (Ev.now _)⟩
  | succ d ih =>
    intro i h hi hd
    have w1 : wrap64 ((i : Int) + 1) = ((i + 1 : Nat) : Int) := by rw [w64 (by omega) (by omega)]; omega
    by_cases h4 : (i : Int) < 4000
    · obtain ⟨h', hh⟩ := ih (i + 1) _ (by omega) (by omega)
      exact ⟨h', Ev.step (fun k => by simp only [spec_l1New.l0]; rw [if_pos (by omega), if_pos h4, if_pos (by omega), w1]) hh⟩
    · exact ⟨h, Ev.step (f := fun _ => some _) (fun k => by simp only [spec_l1New.l0]; rw [if_pos (by omega), if_neg h4]) (Ev.now _)⟩
theorem l1New_f (b : List Int) (hb : b.length ≤ 1048576) : ∃ h, Ev (fun k => spec_l1New.f k b) (b, 0, h) := by
  obtain ⟨h, hh⟩ := l1New_l b hb b.length 0 _ (by omega) (by omega)
  exact ⟨h, hh⟩
theorem at0 (b : List Int) (hb : b.length ≤ 1048576) : At b 0 := ⟨hb, by omega, by omega⟩
theorem l1Byte_f (b : List Int) (i h : Int) (ha : At b i) : ∃ x i' h', spec_l1Byte.f b i h = some (x, i', h') ∧ 0 ≤ x ∧ x < 256 ∧ At b i' := by
  obtain ⟨hb, h0, h1⟩ := ha
  unfold spec_l1Byte.f
  by_cases hlt : i < (b.length : Int)
  · rw [if_pos hlt, if_pos h0, w64 (i := i + 1) (by omega) (by omega)]
    refine ⟨_, _, _, rfl, ?_, ?_, hb, by omega, by omega⟩
    all_goals (rw [and255]; omega)
  · rw [if_neg hlt]
    refine ⟨_, _, _, rfl, ?_, ?_, hb, h0, h1⟩
    all_goals (rw [and255]; omega)
theorem l1Below_f (b : List Int) (i h n : Int) (ha : At b i) (hn : 1 ≤ n) : ∃ x i' h', spec_l1Below.f b i h n = some (x, i', h') ∧ 0 ≤ x ∧ x < n ∧ At b i' := by
  unfold spec_l1Below.f
  rw [if_neg (by omega)]
  obtain ⟨x, i1, h1, e1, x0, x1, a1⟩ := l1Byte_f b i h ha
  by_cases hs : n ≤ 256
  · rw [if_pos hs, e1, Option.bind_some, if_neg (by omega)]
    exact ⟨_, _, _, rfl, Int.tmod_nonneg n x0, Int.tmod_lt_of_pos x (by omega), a1⟩
  · rw [if_neg hs, e1, Option.bind_some]
    obtain ⟨y, i2, h2, e2, y0, y1, a2⟩ := l1Byte_f b i1 h1 a1
    simp only
    rw [e2, Option.bind_some]
    obtain ⟨z, i3, h3, e3, z0, z1, a3⟩ := l1Byte_f b i2 h2 a2
    simp only
    rw [e3, Option.bind_some, if_neg (by omega)]
    refine ⟨_, _, _, rfl, Int.tmod_nonneg n ?_, Int.tmod_lt_of_pos _ (by omega), a3⟩
    rw [w64 (i := x * 65536) (by omega) (by omega), w64 (i := y * 256) (by omega) (by omega), w64 (i := x * 65536 + y * 256) (by omega) (by omega), w64 (i := x * 65536 + y * 256 + z) (by omega) (by omega)]
    omega
theorem l1Str_f (b : List Int) (i h : Int) (l : List ByteArray) (ha : At b i) (hl : 1 ≤ l.length) : ∃ x i' h', spec_l1Str.f b i h l = some (x, i', h') ∧ x ∈ l ∧ At b i' := by
  obtain ⟨x, i1, h1, e1, x0, x1, a1⟩ := l1Below_f b i h (l.length : Int) ha (by omega)
  unfold spec_l1Str.f
  rw [e1, Option.bind_some]
  simp only
  rw [if_pos x0, if_pos x1]
  refine ⟨_, _, _, rfl, ?_, a1⟩
  have hx : x.toNat < l.length := by omega
  unfold rdOf
  rw [List.getD_eq_getElem?_getD, List.getElem?_eq_getElem hx, Option.getD_some]
  exact List.getElem_mem hx
theorem norm_no (l : List UInt8) : (13 : UInt8) ∉ norm l := by
  induction l with
  | nil => simp [norm]
  | cons c l ih =>
    unfold norm
    by_cases hc : c = 13
    · rw [if_pos hc]
      split
      · exact ih
      · simp [ih]
    · rw [if_neg hc]
      simp [ih, Ne.symm hc]
theorem norm_id (l : List UInt8) (h : (13 : UInt8) ∉ l) : norm l = l := by
  induction l with
  | nil => rfl
  | cons c l ih =>
    simp only [List.mem_cons, not_or] at h
    unfold norm
    rw [if_neg (fun e => h.1 e.symm), ih h.2]
theorem norm_le (l : List UInt8) : (norm l).length ≤ l.length := by
  induction l with
  | nil => simp [norm]
  | cons c l ih =>
    unfold norm
    by_cases hc : c = 13
    · rw [if_pos hc]
      split <;> simp only [List.length_cons] <;> omega
    · rw [if_neg hc]
      simp only [List.length_cons]
      omega
theorem drawNorm_l (b : List Int) (d : Nat) : ∀ (s : ByteArray) (x : Int) (i h : Int), At b i → x ≤ d → d ≤ 10 → s.size + 2 * d ≤ 100 → ∃ r, Ev (fun k => spec_DrawNorm.l0 k s x b i h) r ∧ r.size ≤ 100 := by
  induction d with
  | zero =>
    intro s x i h ha hx hd hs
    exact ⟨s, Ev.step (f := fun _ => some _) (fun k => by simp only [spec_DrawNorm.l0]; rw [if_neg (by omega)]) (Ev.now _), by omega⟩
  | succ d ih =>
    intro s x i h ha hx hd hs
    by_cases h0 : x > 0
    · obtain ⟨t, i', h', e, ht, ha'⟩ := l1Str_f b i h ([(⟨#[97]⟩ : ByteArray), (⟨#[13]⟩ : ByteArray), (⟨#[10]⟩ : ByteArray), (⟨#[13, 10]⟩ : ByteArray), (⟨#[13, 13]⟩ : ByteArray), (⟨#[98]⟩ : ByteArray)] : List ByteArray) ha (by simp)
      have hz : t.size ≤ 2 := by
        simp only [List.mem_cons, List.not_mem_nil, or_false] at ht
        rcases ht with rfl | rfl | rfl | rfl | rfl | rfl <;> decide
      obtain ⟨r, r1, r2⟩ := ih (s ++ t) (x - 1) i' h' ha' (by omega) (by omega) (by rw [ByteArray.size_append]; omega)
      refine ⟨r, Ev.step (fun k => ?_) r1, r2⟩
      simp only [spec_DrawNorm.l0]
      rw [if_pos h0, e, Option.bind_some]
      simp only
      rw [if_pos (by omega), w64 (by omega) (by omega)]
    · exact ⟨s, Ev.step (f := fun _ => some _) (fun k => by simp only [spec_DrawNorm.l0]; rw [if_neg h0]) (Ev.now _), by omega⟩
theorem drawNorm_f (b : List Int) (hb : b.length ≤ 1048576) : ∃ r, Ev (fun k => spec_DrawNorm.f k b) r ∧ r.size ≤ 100 := by
  obtain ⟨h, hn⟩ := l1New_f b hb
  obtain ⟨x, i', h', e, x0, x1, ha⟩ := l1Below_f b 0 h 6 (at0 b hb) (by omega)
  obtain ⟨r, r1, r2⟩ := drawNorm_l b 10 (⟨#[]⟩ : ByteArray) x i' h' ha (by omega) (by omega) (by decide)
  refine ⟨r, ?_, r2⟩
  refine Ev.congr (fun k => by simp only [spec_DrawNorm.f]; rfl) (Ev.bind hn ?_)
  exact Ev.congr (fun k => by simp only; rw [e, Option.bind_some]) r1
theorem scan_l (s x : ByteArray) (hx : x.size ≤ 1048576) (hno : (13 : UInt8) ∉ x.data.toList) (r : Bool) (hr : Ev (fun k => (spec_Norm.f k s).bind fun t290 => (if x.toList = t290.toList then ((impl_Norm.f x).bind fun t291 => (if t291.toList = x.toList then (some (decide ((x.size : Int) ≤ (s.size : Int)))) else (some false))) else (some false))) r) (d : Nat) :
    ∀ i : Nat, i ≤ x.size → x.size - i = d → Ev (fun k => laws_FnNorms.l0 k s x (i : Int)) r := by
  induction d with
  | zero =>
    intro i hi hd
    refine Ev.step (fun k => ?_) hr
    simp only [laws_FnNorms.l0]
    rw [if_neg (by omega)]
  | succ d ih =>
    intro i hi hd
    have hlt : i < x.size := by omega
    have hb := bt_data x i hlt
    have hm : x.data.toList[i]'(by rw [← Go.Lib.size_eq]; exact hlt) ∈ x.data.toList := List.getElem_mem _
    have w1 : wrap64 ((i : Int) + 1) = ((i + 1 : Nat) : Int) := by rw [w64 (by omega) (by omega)]; omega
    generalize x.data.toList[i]'(by rw [← Go.Lib.size_eq]; exact hlt) = c at hb hm
    refine Ev.step (fun k => ?_) (ih (i + 1) (by omega) (by omega))
    simp only [laws_FnNorms.l0]
    rw [if_pos (by omega), if_pos (by omega), hb, if_neg (fun h : ((c.toNat : Int) = 13) => hno (by have e : c = 13 := (byte_eq c 13 (by omega)).1 h; rw [e] at hm; exact hm)), w1]
theorem FnNorms : laws_FnNorms.Pure := by
  intro b hb
  by_cases hbig : (b.length : Int) > 1048576
  · exact ⟨0, by simp only [laws_FnNorms.f, laws_big.f]; rw [Option.bind_some, if_pos (decide_eq_true hbig)]⟩
  obtain ⟨s, hs, hz⟩ := drawNorm_f b (by omega)
  have hn := implNorm_f s (by omega)
  have hsp := specNorm_f s (by omega)
  have hl := norm_le s.data.toList
  have hsz : (⟨(norm s.data.toList).toArray⟩ : ByteArray).size = (norm s.data.toList).length := by rw [Go.Lib.size_eq]
  have hls := Go.Lib.size_eq s
  have hdata : (⟨(norm s.data.toList).toArray⟩ : ByteArray).data.toList = norm s.data.toList := by simp
  have hn2 := implNorm_f (⟨(norm s.data.toList).toArray⟩ : ByteArray) (by omega)
  rw [hdata, norm_id _ (norm_no _)] at hn2
  have hno : (13 : UInt8) ∉ (⟨(norm s.data.toList).toArray⟩ : ByteArray).data.toList := by rw [hdata]; exact norm_no _
  generalize (⟨(norm s.data.toList).toArray⟩ : ByteArray) = x at *
  refine Ev.rounds (r := true) ?_
  refine Ev.congr (fun k => by simp only [laws_FnNorms.f, laws_big.f]; rw [Option.bind_some, if_neg (by simpa using hbig)]) (Ev.bind hs ?_)
  refine Ev.congr (f := fun k => laws_FnNorms.l0 k s x ((0 : Nat) : Int)) (fun k => by rw [hn, Option.bind_some]; rfl) ?_
  refine scan_l s x (by omega) hno true ?_ x.size 0 (by omega) (by omega)
  refine Ev.bind hsp (Ev.congr (f := fun _ => some true) (fun k => ?_) (Ev.now _))
  rw [if_pos rfl, hn2, Option.bind_some, if_pos rfl, decide_eq_true (by omega)]

end FnNorms_
theorem FnNorms : laws_FnNorms.Pure := FnNorms_.FnNorms
end Go.Proofs.YtgchgcfjbjopkaaDoor.Pure
