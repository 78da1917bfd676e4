/- The program's SignText (Go's own conversion of a rune) and the reference's bytes are the same text at every number.
Conditions: none. -/
import Derived.Test.YtekopaanhedipaaPZx1
namespace Go.Proofs.Ytekopaanhedipaa.Pure
open Go.RowKit Go.Proofs.Ytekopaanhedipaa.PZ Go.Proofs.YtekopaanhedipaaW.PrintWords Go.Proofs.YtekopaanhedipaaW.PrintLast
set_option linter.unusedVariables false
set_option linter.unusedSimpArgs false

namespace FnExactSignText_
theorem w64 {i : Int} (h0 : -9223372036854775808 ≤ i) (h1 : i ≤ 9223372036854775807) : wrap64 i = i := by unfold wrap64; omega
def inR (n : Int) (p : Int × Int) : Bool := decide (p.1 ≤ n) && decide (n ≤ p.2)
theorem l1In_f (n lo hi : Int) : spec_l1In.f n lo hi = some (inR n (lo, hi)) := by
  unfold spec_l1In.f inR
  by_cases h : n ≥ lo
  · rw [if_pos h]
    simp [h]
  · rw [if_neg h]
    have : ¬ lo ≤ n := h
    simp [this]
theorem and63 (n : Int) : Go.bits .and .i64 n 63 = n % 64 := by
  have h63 : (BitVec.ofInt 64 63).toNat = 2 ^ 6 - 1 := by decide
  have key : (BitVec.ofInt 64 n &&& BitVec.ofInt 64 63).toNat = (n % ((2 ^ 64 : Nat) : Int)).toNat % 2 ^ 6 := by
    rw [BitVec.toNat_and, BitVec.toNat_ofInt, h63, Nat.and_two_pow_sub_one_eq_mod]
  show IntKind.i64.wrap ((BitVec.ofInt 64 n &&& BitVec.ofInt 64 63).toNat : Nat) = n % 64
  rw [key, IntKind.wrap_i64]
  omega
theorem s1 (a : Int) (c : Nat) (h : a.toNat = c) : strOfNums [a] = ⟨#[UInt8.ofNat c]⟩ := by subst h; rfl
theorem s2 (a b : Int) (c d : Nat) (h : a.toNat = c) (h2 : b.toNat = d) : strOfNums [a, b] = ⟨#[UInt8.ofNat c, UInt8.ofNat d]⟩ := by subst h h2; rfl
theorem s3 (a b e : Int) (c d g : Nat) (h : a.toNat = c) (h2 : b.toNat = d) (h3 : e.toNat = g) : strOfNums [a, b, e] = ⟨#[UInt8.ofNat c, UInt8.ofNat d, UInt8.ofNat g]⟩ := by subst h h2 h3; rfl
theorem s4 (a b e f : Int) (c d g i : Nat) (h : a.toNat = c) (h2 : b.toNat = d) (h3 : e.toNat = g) (h4 : f.toNat = i) : strOfNums [a, b, e, f] = ⟨#[UInt8.ofNat c, UInt8.ofNat d, UInt8.ofNat g, UInt8.ofNat i]⟩ := by subst h h2 h3 h4; rfl
theorem encode_of (n : Int) (h0 : 0 ≤ n) (h1 : n ≤ 1114111) (hs : ¬ (55296 ≤ n ∧ n ≤ 57343)) (x : ByteArray)
    (a1 : n < 128 → x = ⟨#[UInt8.ofNat n.toNat]⟩) (a2 : 128 ≤ n → n < 2048 → x = ⟨#[UInt8.ofNat (192 + n.toNat / 64), UInt8.ofNat (128 + n.toNat % 64)]⟩)
    (a3 : 2048 ≤ n → n < 65536 → x = ⟨#[UInt8.ofNat (224 + n.toNat / 4096), UInt8.ofNat (128 + n.toNat / 64 % 64), UInt8.ofNat (128 + n.toNat % 64)]⟩)
    (a4 : 65536 ≤ n → x = ⟨#[UInt8.ofNat (240 + n.toNat / 262144), UInt8.ofNat (128 + n.toNat / 4096 % 64), UInt8.ofNat (128 + n.toNat / 64 % 64), UInt8.ofNat (128 + n.toNat % 64)]⟩) : x = Utf8.encode n := by
  have hv : Utf8.valid n = true := by
    unfold Utf8.valid
    simp only [Bool.or_eq_true, Bool.and_eq_true, decide_eq_true_eq]
    omega
  unfold Utf8.encode
  simp only [hv, if_true]
  by_cases c1 : n < 128
  · rw [if_pos (by omega)]
    exact a1 c1
  rw [if_neg (by omega)]
  by_cases c2 : n < 2048
  · rw [if_pos (by omega)]
    exact a2 (by omega) c2
  rw [if_neg (by omega)]
  by_cases c3 : n < 65536
  · rw [if_pos (by omega)]
    exact a3 (by omega) c3
  rw [if_neg (by omega)]
  exact a4 (by omega)
theorem SignText_f (n : Int) : ∃ r, Ev (fun k => spec_SignText.f k n) r ∧ impl_SignText.f n = some r := by
  have hw : ∀ i : Int, 0 ≤ i → i ≤ 9223372036854775807 → wrap64 i = i := fun i h0 h1 => w64 (by omega) h1
  have hh : ∀ lo hi, impl_SignText.has n lo hi = (decide (lo ≤ n) && decide (n ≤ hi)) := fun _ _ => rfl
  by_cases h0 : n < 0
  · refine ⟨⟨#[]⟩, Ev.step (fun k => ?_) (Ev.now _), ?_⟩
    · simp only [spec_SignText.f, spec_SignText.j0]
      rw [if_pos h0, if_pos trivial]
    · unfold impl_SignText.f
      rw [hh, if_neg (by simp; omega)]
  by_cases h1 : n > 1114111
  · refine ⟨⟨#[]⟩, Ev.step (fun k => ?_) (Ev.now _), ?_⟩
    · simp only [spec_SignText.f, spec_SignText.j0]
      rw [if_neg h0, if_pos h1, if_pos trivial]
    · unfold impl_SignText.f
      rw [hh, if_neg (by simp; omega)]
  by_cases hs : 55296 ≤ n ∧ n ≤ 57343
  · refine ⟨⟨#[]⟩, Ev.step (fun k => ?_) (Ev.now _), ?_⟩
    · simp only [spec_SignText.f, spec_SignText.j0]
      have e : inR n (55296, 57343) = true := by simp [inR, hs.1, hs.2]
      rw [if_neg h0, if_neg h1, l1In_f, e]
      rfl
    · unfold impl_SignText.f
      rw [hh, if_pos (by simp; omega), hh, if_pos (by simp; omega)]
  · have e : inR n (55296, 57343) = false := by
      unfold inR
      rw [Bool.eq_false_iff]
      simp
      omega
    have hf : ∀ k, spec_SignText.f (k + 1) n = spec_SignText.j0 (k + 1) n false := fun k => by
      simp only [spec_SignText.f]
      rw [if_neg h0, if_neg h1, l1In_f, e]
      rfl
    refine ⟨Utf8.encode n, ?_, ?_⟩
    · by_cases c1 : n < 128
      · refine Ev.step (fun k => (hf k).trans ?_) (Ev.now _)
        simp only [spec_SignText.j0]
        rw [if_neg (by simp), if_pos c1]
        exact congrArg some (encode_of n (by omega) (by omega) hs _ (fun _ => s1 _ _ (by omega)) (fun _ _ => by omega) (fun _ _ => by omega) (fun _ => by omega))
      by_cases c2 : n < 2048
      · refine Ev.step (fun k => (hf k).trans ?_) (Ev.now _)
        simp only [spec_SignText.j0]
        rw [if_neg (by simp), if_neg c1, if_pos c2]
        exact congrArg some (encode_of n (by omega) (by omega) hs _ (fun _ => by omega) (fun _ _ => s2 _ _ _ _ (by rw [hw _ (by omega) (by omega)]; omega) (by rw [and63, hw _ (by omega) (by omega)]; omega)) (fun _ _ => by omega) (fun _ => by omega))
      by_cases c3 : n < 65536
      · refine Ev.step (fun k => (hf k).trans ?_) (Ev.now _)
        simp only [spec_SignText.j0]
        rw [if_neg (by simp), if_neg c1, if_neg c2, if_pos c3]
        exact congrArg some (encode_of n (by omega) (by omega) hs _ (fun _ => by omega) (fun _ _ => by omega) (fun _ _ => s3 _ _ _ _ _ _ (by rw [hw _ (by omega) (by omega)]; omega) (by rw [and63, hw _ (by omega) (by omega)]; omega) (by rw [and63, hw _ (by omega) (by omega)]; omega)) (fun _ => by omega))
      · refine Ev.step (fun k => (hf k).trans ?_) (Ev.now _)
        simp only [spec_SignText.j0]
        rw [if_neg (by simp), if_neg c1, if_neg c2, if_neg c3]
        exact congrArg some (encode_of n (by omega) (by omega) hs _ (fun _ => by omega) (fun _ _ => by omega) (fun _ _ => by omega) (fun _ => s4 _ _ _ _ _ _ _ _ (by rw [hw _ (by omega) (by omega)]; omega) (by rw [and63, hw _ (by omega) (by omega)]; omega) (by rw [and63, hw _ (by omega) (by omega)]; omega) (by rw [and63, hw _ (by omega) (by omega)]; omega)))
    · unfold impl_SignText.f
      rw [hh, if_pos (by simp; omega), hh, if_neg (by simp; omega)]
theorem FnExactSignText : laws_FnExactSignText.Pure := by
  intro n _
  obtain ⟨r, hs, hi⟩ := SignText_f n
  obtain ⟨k, hk⟩ := Ev.rounds hs
  refine ⟨k, ?_⟩
  unfold laws_FnExactSignText.f
  rw [hk, hi]
  simp

end FnExactSignText_
theorem FnExactSignText : laws_FnExactSignText.Pure := FnExactSignText_.FnExactSignText
end Go.Proofs.Ytekopaanhedipaa.Pure
