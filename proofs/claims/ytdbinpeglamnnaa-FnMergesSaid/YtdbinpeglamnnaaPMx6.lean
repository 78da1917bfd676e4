-- Written by the session's program hprint.py, over the kit's print program. Lean checks it.
import Derived.Test.YtdbinpeglamnnaaPMx0
import Derived.Test.YtdbinpeglamnnaaPMx3
import Derived.Test.YtdbinpeglamnnaaPMx5
namespace Go.Proofs.Ytdbinpeglamnnaa.PM
open Go.RowKit Go.Proofs.YtdbinpeglamnnaaW.PrintWords Go.Proofs.YtdbinpeglamnnaaW.PrintLast Go.Proofs.YtdbinpeglamnnaaW.PrintMore
attribute [local go_sem] max2_int min2_int max_two min_two max_three min_three max_four min_four   -- for this text's walks alone
set_option linter.unusedVariables false
set_option linter.unusedSimpArgs false

/-! ### spec_l5El: function 60 -/
def spec_l5El.less (acc : List S90) (a : S90) : Option Bool := match acc.getLast? with
  | none => some true
  | some b => spec_l5Less.f b.f0 b.f1 b.f2 b.f3 a.f0 a.f1 a.f2 a.f3
def spec_l5El.ats (k : Nat) (s0 : List Int) (all : List S88) : Nat → Int → List S90 → Int → Int → Option (List S90 × Int × Int)
  | 0, _, _, _, _ => none
  | n + 1, i, acc, s1, s2 => if i > 0 then if acc.length < 1099511627776 ∧ i ≤ 1048576 then (spec_l1Str.f s0 s1 s2 ([(⟨#[105, 100]⟩ : ByteArray), (⟨#[107]⟩ : ByteArray), (⟨#[118]⟩ : ByteArray)] : List ByteArray)).bind fun t => (spec_l5Val.f s0 t.2.1 t.2.2).bind fun v => (spec_l1Str.f s0 v.2.1 v.2.2 ([(⟨#[]⟩ : ByteArray), (⟨#[]⟩ : ByteArray), (⟨#[112]⟩ : ByteArray)] : List ByteArray)).bind fun p => (spec_SpaceOf.f k all p.1).bind fun x => (spec_l5El.less acc (if p.1.toList ≠ [] ∧ x.2 = true then ⟨p.1, t.1, x.1, v.1⟩ else ⟨(⟨#[]⟩ : ByteArray), t.1, (⟨#[]⟩ : ByteArray), v.1⟩ : S90)).bind fun b => spec_l5El.ats k s0 all n (i - 1) (if b = true then acc ++ [(if p.1.toList ≠ [] ∧ x.2 = true then ⟨p.1, t.1, x.1, v.1⟩ else ⟨(⟨#[]⟩ : ByteArray), t.1, (⟨#[]⟩ : ByteArray), v.1⟩ : S90)] else acc) p.2.1 p.2.2 else none else some (acc, s1, s2)
abbrev spec_l5El.Res := S34 × Int × Int × Int
def spec_l5El.kid (F : Int → Int → Int → Option spec_l5El.Res) (s0 : List Int) (b q s1 s2 : Int) : Option spec_l5El.Res :=
  if b = 0 ∨ b = 1 then (spec_l1Str.f s0 s1 s2 ([(⟨#[120]⟩ : ByteArray), (⟨#[121]⟩ : ByteArray), (⟨#[32]⟩ : ByteArray), (⟨#[10, 32, 32]⟩ : ByteArray), (⟨#[49]⟩ : ByteArray), (⟨#[226, 130, 172, 60]⟩ : ByteArray)] : List ByteArray)).bind fun t => some (⟨2, (⟨#[]⟩ : ByteArray), (⟨#[]⟩ : ByteArray), (⟨#[]⟩ : ByteArray), [], [], [], t.1⟩, q, t.2.1, t.2.2)
  else if b = 2 then (spec_l1Str.f s0 s1 s2 ([(⟨#[]⟩ : ByteArray), (⟨#[110]⟩ : ByteArray), (⟨#[32, 109, 32]⟩ : ByteArray)] : List ByteArray)).bind fun t => some (⟨3, (⟨#[]⟩ : ByteArray), (⟨#[]⟩ : ByteArray), (⟨#[]⟩ : ByteArray), [], [], [], t.1⟩, q, t.2.1, t.2.2)
  else if b = 3 then (spec_l1Str.f s0 s1 s2 ([(⟨#[]⟩ : ByteArray), (⟨#[103, 111]⟩ : ByteArray)] : List ByteArray)).bind fun t => some (⟨4, (⟨#[]⟩ : ByteArray), (⟨#[116]⟩ : ByteArray), (⟨#[]⟩ : ByteArray), [], [], [], t.1⟩, q, t.2.1, t.2.2)
  else F s1 s2 q
def spec_l5El.kids (F : Int → Int → Int → Option spec_l5El.Res) (s0 : List Int) : Nat → Int → List S34 → Int → Int → Int → Option (List S34 × Int × Int × Int)
  | 0, _, _, _, _, _ => none
  | n + 1, i, acc, q, s1, s2 => if i > 0 ∧ q > 0 then if acc.length < 549755813888 ∧ i ≤ 1048576 ∧ q ≤ 1048576 then (spec_l1Below.f s0 s1 s2 6).bind fun b => (spec_l5El.kid F s0 b.1 (q - 1) b.2.1 b.2.2).bind fun y => spec_l5El.kids F s0 n (i - 1) (acc ++ [y.1]) y.2.1 y.2.2.1 y.2.2.2 else none else some (acc, q, s1, s2)
/-- The element, what is left of most, the state. -/
def spec_l5El.f : Nat → List Int → Int → Int → List S88 → Int → Option spec_l5El.Res
  | 0, _, _, _, _, _ => none
  | k + 1, s0, s1, s2, l, q => (spec_l1Str.f s0 s1 s2 ([(⟨#[97]⟩ : ByteArray), (⟨#[98]⟩ : ByteArray), (⟨#[99]⟩ : ByteArray), (⟨#[105, 116, 101, 109]⟩ : ByteArray)] : List ByteArray)).bind fun t => (spec_l1Once.f s0 t.2.1 t.2.2 4).bind fun b => (if b.1 = true then spec_l4Draw.f k s0 b.2.1 b.2.2 else some ([], b.2.1, b.2.2)).bind fun d => (spec_Inner.f l d.1).bind fun all => (spec_l1Once.f s0 d.2.1 d.2.2 4).bind fun e => (if e.1 = true then spec_l1Str.f s0 e.2.1 e.2.2 ([(⟨#[112]⟩ : ByteArray), (⟨#[113]⟩ : ByteArray)] : List ByteArray) else some ((⟨#[]⟩ : ByteArray), e.2.1, e.2.2)).bind fun p => (spec_SpaceOf.f k all p.1).bind fun u => (if u.2 = true then some (p.1, u.1) else (spec_SpaceOf.f k all (⟨#[]⟩ : ByteArray)).bind fun v => some ((⟨#[]⟩ : ByteArray), v.1)).bind fun pu => (spec_l1Below.f s0 p.2.1 p.2.2 3).bind fun i => (spec_l5El.ats k s0 all k i.1 [] i.2.1 i.2.2).bind fun a => (spec_l1Below.f s0 a.2.1 a.2.2 4).bind fun j => (spec_l5El.kids (fun y1 y2 y3 => spec_l5El.f k s0 y1 y2 all y3) s0 k j.1 [] q j.2.1 j.2.2).bind fun c => (spec_Merge.f k c.1).bind fun ks => some (⟨1, pu.1, t.1, pu.2, d.1, a.1, ks, (⟨#[]⟩ : ByteArray)⟩, c.2)
/-- The state, most's cell, the box of what is handed back, the box n, what lies below, what was kept; the numbers. -/
def spec_l5El.St (w0 w W : World) (g m gR gN N : Nat) (s0 : List Int) (s1 s2 q : Int) (vs : Array Value) : Prop :=
  IsS99 w0 W g s0 s1 s2 ∧ W.heap[m]? = some (.cells #[.int .i64 q] 3 (0, 0)) ∧ W.heap[gR]? = some (.cells #[.int .i64 0, .string (⟨#[]⟩ : ByteArray), .string (⟨#[]⟩ : ByteArray), .string (⟨#[]⟩ : ByteArray), .slice none 0 0, .slice none 0 0, .slice none 0 0, .string (⟨#[]⟩ : ByteArray)] 34 (0, 0)) ∧ W.heap[gN]? = some (.cells vs 34 (0, 0)) ∧ Below w0.heap.size w0 W ∧ Kept w W (fun k_ => k_ = g ∨ k_ = m) ∧ (w0.heap.size ≤ m ∧ g ≠ m ∧ g < w.heap.size ∧ m < w.heap.size ∧ w.heap.size ≤ gR ∧ gR < gN ∧ N ≤ W.heap.size)
def spec_l5El.P0 (w0 w W : World) (g m gR : Nat) (s0 : List Int) (s1 s2 q : Int) : Prop :=
  IsS99 w0 W g s0 s1 s2 ∧ W.heap[m]? = some (.cells #[.int .i64 q] 3 (0, 0)) ∧ W.heap[gR]? = some (.cells #[.int .i64 0, .string (⟨#[]⟩ : ByteArray), .string (⟨#[]⟩ : ByteArray), .string (⟨#[]⟩ : ByteArray), .slice none 0 0, .slice none 0 0, .slice none 0 0, .string (⟨#[]⟩ : ByteArray)] 34 (0, 0)) ∧ Below w0.heap.size w0 W ∧ Kept w W (fun k_ => k_ = g ∨ k_ = m) ∧ (w0.heap.size ≤ m ∧ g ≠ m ∧ g < w.heap.size ∧ m < w.heap.size ∧ w.heap.size ≤ gR)
def spec_l5El.Off (n : Nat) (W W' : World) : Prop := ∀ k, n < k → k < W.heap.size → W'.heap[k]? = W.heap[k]?
theorem spec_l5El.R_off {α : Type} {d : Kd α} {e base n : Nat} {ok : Nat → Prop} {W W' : World} {v : Value} {xs : List α} (h : d.R e W base ok v xs) (ho : spec_l5El.Off n W W') (hb : n < base) : d.R e W' base ok v xs :=
  Kd.R_mono (Kd.R_step (Kd.R_bound h) (fun k hk hlt => ho k (Nat.lt_of_lt_of_le hb hk.2.1) hlt)) (fun _ h_ => h_.1)
theorem spec_l5El.blk_off {n k : Nat} {W W' : World} {x : Obj} (h : W.heap[k]? = some x) (ho : spec_l5El.Off n W W') (hb : n < k) : W'.heap[k]? = some x := (ho k hb (blk_lt h)).trans h
section
variable {w0 w W : World} {g m gR gN N : Nat} {s0 : List Int} {s1 s2 q : Int} {vs : Array Value}
theorem spec_l5El.P0.new (hI : IsS99 w0 w g s0 s1 s2) (hm : w.heap[m]? = some (.cells #[.int .i64 q] 3 (0, 0))) (hm0 : w0.heap.size ≤ m) (hgm : g ≠ m) (hB : Below w0.heap.size w0 w) {w1 : World} (hg : gR = w.heap.size) (hbox : w1.heap[gR]? = some (.cells #[.int .i64 0, .string (⟨#[]⟩ : ByteArray), .string (⟨#[]⟩ : ByteArray), .string (⟨#[]⟩ : ByteArray), .slice none 0 0, .slice none 0 0, .slice none 0 0, .string (⟨#[]⟩ : ByteArray)] 34 (0, 0))) (hb : Below w.heap.size w w1) : spec_l5El.P0 w0 w w1 g m gR s0 s1 s2 q :=
  ⟨IsS99.below hI hb, blk_below hm hb, hbox, below_step hB hb, Kept.of_below hb _, hm0, hgm, IsS99.lt hI, blk_lt hm, Nat.le_of_eq hg.symm⟩
theorem spec_l5El.P0.below (h : spec_l5El.P0 w0 w W g m gR s0 s1 s2 q) {W' : World} (hb : Below W.heap.size W W') : spec_l5El.P0 w0 w W' g m gR s0 s1 s2 q := by
  obtain ⟨hI, hm, hR, hB, hK, n⟩ := h
  exact ⟨IsS99.below hI hb, blk_below hm hb, blk_below hR hb, below_step hB hb, Kept.below hK hb, n⟩
theorem spec_l5El.P0.call (h : spec_l5El.P0 w0 w W g m gR s0 s1 s2 q) {W' : World} {t1 t2 : Int} (hI : IsS99 w0 W' g s0 t1 t2) (hB : Below w0.heap.size w0 W') (hk : KeepBut W W' g none) : spec_l5El.P0 w0 w W' g m gR s0 t1 t2 q := by
  obtain ⟨-, hm, hR, -, hK, n1, n2, n3, n4, n5⟩ := h
  exact ⟨hI, KeepBut.blk hk hm (Ne.symm n2) (by simp), KeepBut.blk hk hR (by omega) (by simp), hB, Kept.of_keep hK hk (.inl (.inl rfl)), n1, n2, n3, n4, n5⟩
theorem spec_l5El.P0.I (h : spec_l5El.P0 w0 w W g m gR s0 s1 s2 q) : IsS99 w0 W g s0 s1 s2 := h.1
theorem spec_l5El.P0.B (h : spec_l5El.P0 w0 w W g m gR s0 s1 s2 q) : Below w0.heap.size w0 W := h.2.2.2.1
theorem spec_l5El.St.new (h : spec_l5El.P0 w0 w W g m gR s0 s1 s2 q) {w1 : World} (hg : gN = W.heap.size) (hbox : w1.heap[gN]? = some (.cells vs 34 (0, 0))) (hb : Below W.heap.size W w1) : spec_l5El.St w0 w w1 g m gR gN 0 s0 s1 s2 q vs := by
  obtain ⟨hI, hm, hR, hB, hK, n1, n2, n3, n4, n5⟩ := h
  exact ⟨IsS99.below hI hb, blk_below hm hb, blk_below hR hb, hbox, below_step hB hb, Kept.below hK hb, n1, n2, n3, n4, n5, by rw [hg]; exact blk_lt hR, Nat.zero_le _⟩
theorem spec_l5El.St.I (h : spec_l5El.St w0 w W g m gR gN N s0 s1 s2 q vs) : IsS99 w0 W g s0 s1 s2 := h.1
theorem spec_l5El.St.M (h : spec_l5El.St w0 w W g m gR gN N s0 s1 s2 q vs) : W.heap[m]? = some (.cells #[.int .i64 q] 3 (0, 0)) := h.2.1
theorem spec_l5El.St.R (h : spec_l5El.St w0 w W g m gR gN N s0 s1 s2 q vs) : W.heap[gR]? = some (.cells #[.int .i64 0, .string (⟨#[]⟩ : ByteArray), .string (⟨#[]⟩ : ByteArray), .string (⟨#[]⟩ : ByteArray), .slice none 0 0, .slice none 0 0, .slice none 0 0, .string (⟨#[]⟩ : ByteArray)] 34 (0, 0)) := h.2.2.1
theorem spec_l5El.St.C (h : spec_l5El.St w0 w W g m gR gN N s0 s1 s2 q vs) : W.heap[gN]? = some (.cells vs 34 (0, 0)) := h.2.2.2.1
theorem spec_l5El.St.B (h : spec_l5El.St w0 w W g m gR gN N s0 s1 s2 q vs) : Below w0.heap.size w0 W := h.2.2.2.2.1
theorem spec_l5El.St.K (h : spec_l5El.St w0 w W g m gR gN N s0 s1 s2 q vs) : Kept w W (fun k_ => k_ = g ∨ k_ = m) := h.2.2.2.2.2.1
theorem spec_l5El.St.Z (h : spec_l5El.St w0 w W g m gR gN N s0 s1 s2 q vs) : N ≤ W.heap.size := h.2.2.2.2.2.2.2.2.2.2.2.2
theorem spec_l5El.St.lt (h : spec_l5El.St w0 w W g m gR gN N s0 s1 s2 q vs) : gN < W.heap.size := blk_lt h.C
theorem spec_l5El.St.renew (h : spec_l5El.St w0 w W g m gR gN N s0 s1 s2 q vs) : spec_l5El.St w0 w W g m gR gN W.heap.size s0 s1 s2 q vs := by
  obtain ⟨hI, hm, hR, hN, hB, hK, n1, n2, n3, n4, n5, n6, n7⟩ := h
  exact ⟨hI, hm, hR, hN, hB, hK, n1, n2, n3, n4, n5, n6, Nat.le_refl _⟩
theorem spec_l5El.St.call (h : spec_l5El.St w0 w W g m gR gN N s0 s1 s2 q vs) {W' : World} {t1 t2 : Int} (hI : IsS99 w0 W' g s0 t1 t2) (hB : Below w0.heap.size w0 W') (hk : KeepBut W W' g none) : spec_l5El.St w0 w W' g m gR gN N s0 t1 t2 q vs ∧ spec_l5El.Off gN W W' := by
  obtain ⟨-, hm, hR, hN, -, hK, n1, n2, n3, n4, n5, n6, n7⟩ := h
  exact ⟨⟨hI, KeepBut.blk hk hm (Ne.symm n2) (by simp), KeepBut.blk hk hR (by omega) (by simp), KeepBut.blk hk hN (by omega) (by simp), hB, Kept.of_keep hK hk (.inl (.inl rfl)), n1, n2, n3, n4, n5, n6, Nat.le_trans n7 hk.1⟩, fun k h1 h2 => hk.2 k h2 (by omega) (by simp)⟩
theorem spec_l5El.St.below (h : spec_l5El.St w0 w W g m gR gN N s0 s1 s2 q vs) {W' : World} (hb : Below W.heap.size W W') : spec_l5El.St w0 w W' g m gR gN N s0 s1 s2 q vs ∧ spec_l5El.Off gN W W' := by
  obtain ⟨hI, hm, hR, hN, hB, hK, n1, n2, n3, n4, n5, n6, n7⟩ := h
  exact ⟨⟨IsS99.below hI hb, blk_below hm hb, blk_below hR hb, blk_below hN hb, below_step hB hb, Kept.below hK hb, n1, n2, n3, n4, n5, n6, Nat.le_trans n7 hb.size⟩, fun k _ h2 => hb.block k h2⟩
theorem spec_l5El.St.far (h : spec_l5El.St w0 w W g m gR gN N s0 s1 s2 q vs) {x : Nat} (hx : gN < x) (j : Nat) (u : Value) : spec_l5El.St w0 w (W.setCell ⟨x, j, none⟩ u) g m gR gN N s0 s1 s2 q vs := by
  obtain ⟨hI, hm, hR, hN, hB, hK, n1, n2, n3, n4, n5, n6, n7⟩ := h
  exact ⟨IsS99.far hI (show g ≠ x by omega) u, blk_far hm (show m ≠ x by omega) u, blk_far hR (show gR ≠ x by omega) u, blk_far hN (show gN ≠ x by omega) u, below_set hB (by omega), Kept.setCell hK (.inr (show w.heap.size ≤ x by omega)) u, n1, n2, n3, n4, n5, n6, by simpa [World.setCell] using n7⟩
theorem spec_l5El.St.set (h : spec_l5El.St w0 w W g m gR gN N s0 s1 s2 q vs) (j : Nat) (u : Value) {vs' : Array Value} (e : vs.setIfInBounds j u = vs') : spec_l5El.St w0 w (W.setCell ⟨gN, j, none⟩ u) g m gR gN N s0 s1 s2 q vs' ∧ spec_l5El.Off gN W (W.setCell ⟨gN, j, none⟩ u) := by
  obtain ⟨hI, hm, hR, hN, hB, hK, n1, n2, n3, n4, n5, n6, n7⟩ := h
  exact ⟨⟨IsS99.far hI (show g ≠ gN by omega) u, blk_far hm (show m ≠ gN by omega) u, blk_far hR (show gR ≠ gN by omega) u, blk_put hN j u e, below_set hB (by omega), Kept.setCell hK (.inr (show w.heap.size ≤ gN by omega)) u, n1, n2, n3, n4, n5, n6, by simpa [World.setCell] using n7⟩, fun k h1 _ => Below.heap_setCell W ⟨gN, j, none⟩ u k (show k ≠ gN by omega)⟩
theorem spec_l5El.St.setm (h : spec_l5El.St w0 w W g m gR gN N s0 s1 s2 q vs) (x : Int) : spec_l5El.St w0 w (W.setCell ⟨m, 0, none⟩ (.int .i64 x)) g m gR gN N s0 s1 s2 x vs ∧ spec_l5El.Off gN W (W.setCell ⟨m, 0, none⟩ (.int .i64 x)) := by
  obtain ⟨hI, hm, hR, hN, hB, hK, n1, n2, n3, n4, n5, n6, n7⟩ := h
  exact ⟨⟨IsS99.far hI n2 _, blk_put hm 0 _ rfl, blk_far hR (show gR ≠ m by omega) _, blk_far hN (show gN ≠ m by omega) _, below_set hB n1, Kept.setCell hK (.inl (.inr rfl)) _, n1, n2, n3, n4, n5, n6, by simpa [World.setCell] using n7⟩, fun k h1 _ => Below.heap_setCell W ⟨m, 0, none⟩ _ k (show k ≠ m by omega)⟩
theorem spec_l5El.St.kept (h : spec_l5El.St w0 w W g m gR gN N s0 s1 s2 q vs) {W' : World} {t1 t2 x : Int} (hI : IsS99 w0 W' g s0 t1 t2) (hm' : W'.heap[m]? = some (.cells #[.int .i64 x] 3 (0, 0))) (hB : Below w0.heap.size w0 W') (hk : Kept W W' (fun k_ => k_ = g ∨ k_ = m)) : spec_l5El.St w0 w W' g m gR gN N s0 t1 t2 x vs ∧ spec_l5El.Off gN W W' := by
  obtain ⟨-, -, hR, hN, -, hK, n1, n2, n3, n4, n5, n6, n7⟩ := h
  exact ⟨⟨hI, hm', blk_kept hR hk (fun h_ => h_.elim (fun _ => by omega) (fun _ => by omega)), blk_kept hN hk (fun h_ => h_.elim (fun _ => by omega) (fun _ => by omega)), hB, Kept.then_ hK hk (fun _ h_ => .inl h_), n1, n2, n3, n4, n5, n6, Nat.le_trans n7 hk.1⟩, fun k h1 h2 => hk.2 k h2 (fun h_ => h_.elim (fun _ => by omega) (fun _ => by omega))⟩
theorem spec_l5El.St.grown (h : spec_l5El.St w0 w W g m gR gN N s0 s1 s2 q vs) {W' : World} {row : Option Nat} (hg : W.grownBy W' row) (hr : ∀ k, row = some k → gN < k) : spec_l5El.St w0 w W' g m gR gN N s0 s1 s2 q vs := by
  obtain ⟨hI, hm, hR, hN, hB, hK, n1, n2, n3, n4, n5, n6, n7⟩ := h
  have ne : ∀ x, x ≤ gN → some x ≠ row := fun x hx e => by have := hr x e.symm; omega
  exact ⟨IsS99.grown hI hg (ne _ (by omega)), blk_grown hm hg (ne _ (by omega)), blk_grown hR hg (ne _ (by omega)), blk_grown hN hg (ne _ (Nat.le_refl _)), pw_below_grown hB row hB.size hg (fun k e => by have := hr k e; omega), Kept.of_grown hg hK (fun k e => .inr (by have := hr k e; omega)), n1, n2, n3, n4, n5, n6, Nat.le_trans n7 hg.size⟩
theorem spec_l5El.St.set8 {a0 a1 a2 a3 a4 a5 a6 a7 u0 u1 u2 u3 u4 u5 u6 u7 : Value} (h : spec_l5El.St w0 w W g m gR gN N s0 s1 s2 q #[a0, a1, a2, a3, a4, a5, a6, a7]) : spec_l5El.St w0 w ((((((((W.setCell ⟨gN, 0, none⟩ u0).setCell ⟨gN, 1, none⟩ u1).setCell ⟨gN, 2, none⟩ u2).setCell ⟨gN, 3, none⟩ u3).setCell ⟨gN, 4, none⟩ u4).setCell ⟨gN, 5, none⟩ u5).setCell ⟨gN, 6, none⟩ u6).setCell ⟨gN, 7, none⟩ u7) g m gR gN N s0 s1 s2 q #[u0, u1, u2, u3, u4, u5, u6, u7] :=
  by
  have h0 := (spec_l5El.St.set h 0 u0 (vs' := #[u0, a1, a2, a3, a4, a5, a6, a7]) rfl).1
  have h1 := (spec_l5El.St.set h0 1 u1 (vs' := #[u0, u1, a2, a3, a4, a5, a6, a7]) rfl).1
  have h2 := (spec_l5El.St.set h1 2 u2 (vs' := #[u0, u1, u2, a3, a4, a5, a6, a7]) rfl).1
  have h3 := (spec_l5El.St.set h2 3 u3 (vs' := #[u0, u1, u2, u3, a4, a5, a6, a7]) rfl).1
  have h4 := (spec_l5El.St.set h3 4 u4 (vs' := #[u0, u1, u2, u3, u4, a5, a6, a7]) rfl).1
  have h5 := (spec_l5El.St.set h4 5 u5 (vs' := #[u0, u1, u2, u3, u4, u5, a6, a7]) rfl).1
  have h6 := (spec_l5El.St.set h5 6 u6 (vs' := #[u0, u1, u2, u3, u4, u5, u6, a7]) rfl).1
  have h7 := (spec_l5El.St.set h6 7 u7 (vs' := #[u0, u1, u2, u3, u4, u5, u6, u7]) rfl).1
  exact h7
/-- What is left of the bundle at the end: the box of what is handed back is filled. -/
def spec_l5El.Fin (w0 w W : World) (g m : Nat) (s0 : List Int) (s1 s2 q : Int) : Prop := IsS99 w0 W g s0 s1 s2 ∧ W.heap[m]? = some (.cells #[.int .i64 q] 3 (0, 0)) ∧ Below w0.heap.size w0 W ∧ Kept w W (fun k_ => k_ = g ∨ k_ = m)
theorem spec_l5El.Fin.set (h : spec_l5El.Fin w0 w W g m s0 s1 s2 q) (n : w0.heap.size ≤ gR ∧ g < gR ∧ m < gR ∧ w.heap.size ≤ gR) (j : Nat) (u : Value) : spec_l5El.Fin w0 w (W.setCell ⟨gR, j, none⟩ u) g m s0 s1 s2 q :=
  ⟨IsS99.far h.1 (show g ≠ gR by omega) u, blk_far h.2.1 (show m ≠ gR by omega) u, below_set h.2.2.1 n.1, Kept.setCell h.2.2.2 (.inr n.2.2.2) u⟩
theorem spec_l5El.St.fin {u0 u1 u2 u3 u4 u5 u6 u7 : Value} (h : spec_l5El.St w0 w W g m gR gN N s0 s1 s2 q vs) : spec_l5El.Fin w0 w ((((((((W.setCell ⟨gR, 0, none⟩ u0).setCell ⟨gR, 1, none⟩ u1).setCell ⟨gR, 2, none⟩ u2).setCell ⟨gR, 3, none⟩ u3).setCell ⟨gR, 4, none⟩ u4).setCell ⟨gR, 5, none⟩ u5).setCell ⟨gR, 6, none⟩ u6).setCell ⟨gR, 7, none⟩ u7) g m s0 s1 s2 q := by
  obtain ⟨hI, hm, -, -, hB, hK, n1, n2, n3, n4, n5, n6, n7⟩ := h
  have n : w0.heap.size ≤ gR ∧ g < gR ∧ m < gR ∧ w.heap.size ≤ gR := ⟨by omega, by omega, by omega, n5⟩
  exact (((((((((show spec_l5El.Fin w0 w W g m s0 s1 s2 q from ⟨hI, hm, hB, hK⟩).set n 0 u0).set n 1 u1).set n 2 u2).set n 3 u3).set n 4 u4).set n 5 u5).set n 6 u6).set n 7 u7)
theorem spec_l5El.St.finR {u0 u1 u2 u3 u4 u5 u6 u7 : Value} {α : Type} {d : Kd α} {e base : Nat} {ok : Nat → Prop} {v : Value} {xs : List α} (h : spec_l5El.St w0 w W g m gR gN N s0 s1 s2 q vs) (hr : d.R e W base ok v xs) (hb : gN < base) : d.R e ((((((((W.setCell ⟨gR, 0, none⟩ u0).setCell ⟨gR, 1, none⟩ u1).setCell ⟨gR, 2, none⟩ u2).setCell ⟨gR, 3, none⟩ u3).setCell ⟨gR, 4, none⟩ u4).setCell ⟨gR, 5, none⟩ u5).setCell ⟨gR, 6, none⟩ u6).setCell ⟨gR, 7, none⟩ u7) w.heap.size (fun _ => True) v xs := by
  obtain ⟨-, -, -, -, -, -, n1, n2, n3, n4, n5, n6, n7⟩ := h
  have hk : ∀ k, (ok k ∧ base ≤ k ∧ k < W.heap.size ∧ ∃ q, q ∈ e :: d.E ∧ ∃ cells, W.heap[k]? = some (.cells cells q (0, 0))) → k ≠ gR := fun k h_ => by have := h_.2.1; omega
  exact Kd.R_lower (Kd.R_mono (Kd.R_far (p := ⟨gR, 7, none⟩) (Kd.R_far (p := ⟨gR, 6, none⟩) (Kd.R_far (p := ⟨gR, 5, none⟩) (Kd.R_far (p := ⟨gR, 4, none⟩) (Kd.R_far (p := ⟨gR, 3, none⟩) (Kd.R_far (p := ⟨gR, 2, none⟩) (Kd.R_far (p := ⟨gR, 1, none⟩) (Kd.R_far (p := ⟨gR, 0, none⟩) (Kd.R_bound hr) hk u0) hk u1) hk u2) hk u3) hk u4) hk u5) hk u6) hk u7) (fun _ _ => trivial)) (by omega)
end
theorem spec_l5El.put4 {w : World} {g : Nat} {t : TypeId} {a0 a1 a2 a3 b0 b1 b2 b3 : Value} (h : w.heap[g]? = some (.cells #[a0, a1, a2, a3] t (0, 0))) : ((((w.setCell ⟨g, 0, none⟩ b0).setCell ⟨g, 1, none⟩ b1).setCell ⟨g, 2, none⟩ b2).setCell ⟨g, 3, none⟩ b3).heap[g]? = some (.cells #[b0, b1, b2, b3] t (0, 0)) :=
  blk_put (cs := #[b0, b1, b2, a3]) (blk_put (cs := #[b0, b1, a2, a3]) (blk_put (cs := #[b0, a1, a2, a3]) (blk_put h 0 b0 rfl) 1 b1 rfl) 2 b2 rfl) 3 b3 rfl
theorem spec_l5El.ch4 {W0 w : World} {g : Nat} {b0 b1 b2 b3 : Value} (hb : Below W0.heap.size W0 w) (hg : W0.heap.size ≤ g) : Below W0.heap.size W0 ((((w.setCell ⟨g, 0, none⟩ b0).setCell ⟨g, 1, none⟩ b1).setCell ⟨g, 2, none⟩ b2).setCell ⟨g, 3, none⟩ b3) := below_set (below_set (below_set (below_set hb hg) hg) hg) hg
theorem spec_l5El.ch8 {W0 w : World} {g : Nat} {u0 u1 u2 u3 u4 u5 u6 u7 : Value} (hb : Below W0.heap.size W0 w) (hg : W0.heap.size ≤ g) : Below W0.heap.size W0 ((((((((w.setCell ⟨g, 0, none⟩ u0).setCell ⟨g, 1, none⟩ u1).setCell ⟨g, 2, none⟩ u2).setCell ⟨g, 3, none⟩ u3).setCell ⟨g, 4, none⟩ u4).setCell ⟨g, 5, none⟩ u5).setCell ⟨g, 6, none⟩ u6).setCell ⟨g, 7, none⟩ u7) := below_set (below_set (below_set (below_set (below_set (below_set (below_set (below_set hb hg) hg) hg) hg) hg) hg) hg) hg
theorem spec_l5El.sz8 {w : World} {g : Nat} {u0 u1 u2 u3 u4 u5 u6 u7 : Value} : (World.heap ((((((((w.setCell ⟨g, 0, none⟩ u0).setCell ⟨g, 1, none⟩ u1).setCell ⟨g, 2, none⟩ u2).setCell ⟨g, 3, none⟩ u3).setCell ⟨g, 4, none⟩ u4).setCell ⟨g, 5, none⟩ u5).setCell ⟨g, 6, none⟩ u6).setCell ⟨g, 7, none⟩ u7)).size = (World.heap w).size := by simp [World.setCell]
theorem spec_l5El.box1 {P : Program} {ops : Array Oper} {o : Oper} {a : Act} {W : World} {Kc : Act → World → Prop} {Q : Exit → Act → World → Prop} (hw : Region.wanted o (yielded ops a.tmps) = true) {cs : Array Value} {t : TypeId}
    (hrun : (execOp a.eval o).run P W = .ok (.value (.slice (some ⟨W.heap.size, 0, none⟩) 1 1)) (W.alloc (.cells cs t (0, 0))))
    (h : Kc (a.put o.dst (.slice (some ⟨W.heap.size, 0, none⟩) 1 1)) (W.alloc (.cells cs t (0, 0)))) : if Region.wanted o (yielded ops a.tmps) = true then Oper.wp P o a W Kc Q else Kc (a.put o.dst undef) W := event_step hw hrun h
theorem spec_l5El.last (acc : List S90) (j : Int) (hj : j = (acc.length : Int) - 1) (h0 : ¬ (acc.length : Int) = 0) : acc.getLast? = some (rd_T90 acc j) := by
  unfold rd_T90
  subst hj
  rw [show ((acc.length : Int) - 1).toNat = acc.length - 1 by omega, List.getLast?_eq_getElem?, List.getD_eq_getElem?_getD, List.getElem?_eq_getElem (by omega)]
  rfl
theorem spec_l5El.C_of {w0 w W : World} {g m gR gN N : Nat} {s0 : List Int} {s1 s2 q : Int} {vs : Array Value} {A : Option Addr} {c n base : Nat} {ok : Nat → Prop} {xs : List S88} (h : Kd.R k88 88 W base ok (.slice A n c) xs) (hS : spec_l5El.St w0 w W g m gR gN N s0 s1 s2 q vs) (hb : gN < base := by exact Nat.lt_succ_self _) : ∀ W_, Kept W W_ (fun k_ => k_ = g ∨ k_ = m) → Kd.C k88 W_ A n xs := by
  obtain ⟨-, -, -, -, -, -, n1, n2, n3, n4, n5, n6, n7⟩ := hS
  exact Kd.C_kept_own (Kd.R_bound h) (fun k h_ h2_ => h2_.elim (fun e => by have := h_.2.1; omega) (fun e => by have := h_.2.1; omega))
theorem spec_l5El.inner (k : Nat) (g m : Nat) (s0 : List Int) (s1 s2 : Int) (A1 : Option Addr) (c1 : Nat) (l : List S88) (q : Int) (x0 : Int) (x1 x2 x3 : ByteArray) (x4 : List S88) (x5 : List S90) (x6 : List S34) (x7 : ByteArray) (q' s1' s2' : Int) (w0 w : World) {v : World} {gR gN N : Nat} {vs : Array Value} (ih : ∀ (g m : Nat) (s0 : List Int) (s1 s2 : Int) (A1 : Option Addr) (c1 : Nat) (l : List S88) (q : Int) (x : S34) (q' s1' s2' : Int) (w0 w : World) (hI : IsS99 w0 w g s0 s1 s2) (hm : w.heap[m]? = some (.cells #[.int .i64 q] 3 (0, 0))) (hm0 : w0.heap.size ≤ m) (hgm : g ≠ m) (hB : Below w0.heap.size w0 w) (hr : ∀ W_, Kept w W_ (fun k_ => k_ = g ∨ k_ = m) → Kd.C k88 W_ A1 l.length l) (hc : l.length ≤ c1) (h : spec_l5El.f k s0 s1 s2 l q = some (x, q', s1', s2')),
    Calls Try.prog 60 #[.pointer (some ⟨g, 0, none⟩), .slice A1 l.length c1, .pointer (some ⟨m, 0, none⟩)] w fun e w' => ∃ v4 v5 v6 : Value, e = .returned (.agg #[.int .i64 x.f0, .string x.f1, .string x.f2, .string x.f3, v4, v5, v6, .string x.f7]) ∧ Kd.R k88 88 w' w.heap.size (fun _ => True) v4 x.f4 ∧ Kd.R k90 90 w' w.heap.size (fun _ => True) v5 x.f5 ∧ Kd.R k34 34 w' w.heap.size (fun _ => True) v6 x.f6 ∧ IsS99 w0 w' g s0 s1' s2' ∧ w'.heap[m]? = some (.cells #[.int .i64 q'] 3 (0, 0)) ∧ Below w0.heap.size w0 w' ∧ Kept w w' (fun k_ => k_ = g ∨ k_ = m)) (hS : spec_l5El.St w0 v w g m gR gN N s0 s1 s2 q vs) (hr : ∀ W_, Kept w W_ (fun k_ => k_ = g ∨ k_ = m) → Kd.C k88 W_ A1 l.length l) (hc : l.length ≤ c1) (h : spec_l5El.f k s0 s1 s2 l q = some (⟨x0, x1, x2, x3, x4, x5, x6, x7⟩, q', s1', s2')) :
    Calls Try.prog 60 #[.pointer (some ⟨g, 0, none⟩), .slice A1 l.length c1, .pointer (some ⟨m, 0, none⟩)] w fun e w' => ∃ v4 v5 v6 : Value, e = .returned (.agg #[.int .i64 x0, .string x1, .string x2, .string x3, v4, v5, v6, .string x7]) ∧ Kd.R k88 88 w' w.heap.size (fun _ => True) v4 x4 ∧ Kd.R k90 90 w' w.heap.size (fun _ => True) v5 x5 ∧ Kd.R k34 34 w' w.heap.size (fun _ => True) v6 x6 ∧ IsS99 w0 w' g s0 s1' s2' ∧ w'.heap[m]? = some (.cells #[.int .i64 q'] 3 (0, 0)) ∧ Below w0.heap.size w0 w' ∧ Kept w w' (fun k_ => k_ = g ∨ k_ = m) :=
  ih g m s0 s1 s2 A1 c1 l q ⟨x0, x1, x2, x3, x4, x5, x6, x7⟩ q' s1' s2' w0 w hS.I hS.M hS.2.2.2.2.2.2.1 hS.2.2.2.2.2.2.2.1 hS.B hr hc h
set_option maxHeartbeats 16000000 in
set_option maxRecDepth 100000 in
theorem spec_l5El.calls (k : Nat) : ∀ (g m : Nat) (s0 : List Int) (s1 s2 : Int) (A1 : Option Addr) (c1 : Nat) (l : List S88) (q : Int) (x : S34) (q' s1' s2' : Int) (w0 w : World) (hI : IsS99 w0 w g s0 s1 s2) (hm : w.heap[m]? = some (.cells #[.int .i64 q] 3 (0, 0))) (hm0 : w0.heap.size ≤ m) (hgm : g ≠ m) (hB : Below w0.heap.size w0 w) (hr : ∀ W_, Kept w W_ (fun k_ => k_ = g ∨ k_ = m) → Kd.C k88 W_ A1 l.length l) (hc : l.length ≤ c1) (h : spec_l5El.f k s0 s1 s2 l q = some (x, q', s1', s2')),
    Calls Try.prog 60 #[.pointer (some ⟨g, 0, none⟩), .slice A1 l.length c1, .pointer (some ⟨m, 0, none⟩)] w fun e w' => ∃ v4 v5 v6 : Value, e = .returned (.agg #[.int .i64 x.f0, .string x.f1, .string x.f2, .string x.f3, v4, v5, v6, .string x.f7]) ∧ Kd.R k88 88 w' w.heap.size (fun _ => True) v4 x.f4 ∧ Kd.R k90 90 w' w.heap.size (fun _ => True) v5 x.f5 ∧ Kd.R k34 34 w' w.heap.size (fun _ => True) v6 x.f6 ∧ IsS99 w0 w' g s0 s1' s2' ∧ w'.heap[m]? = some (.cells #[.int .i64 q'] 3 (0, 0)) ∧ Below w0.heap.size w0 w' ∧ Kept w w' (fun k_ => k_ = g ∨ k_ = m) := by
  induction k with
  | zero => intro g m s0 s1 s2 A1 c1 l q x q' s1' s2' w0 w hI hm hm0 hgm hB hr hc h; exact absurd h (by simp [spec_l5El.f])
  | succ k ih =>
  intro g m s0 s1 s2 A1 c1 l q x q' s1' s2' w0 w hI hm hm0 hgm hB hr hc h
  simp only [spec_l5El.f] at h
  replace h := Option.bind_eq_some_iff.1 h
  obtain ⟨⟨t, a1, a2⟩, h1_, h⟩ := h
  replace h := Option.bind_eq_some_iff.1 h
  obtain ⟨⟨b, b1, b2⟩, h2_, h⟩ := h
  replace h := Option.bind_eq_some_iff.1 h
  obtain ⟨⟨d, d1, d2⟩, h3_, h⟩ := h
  replace h := Option.bind_eq_some_iff.1 h
  obtain ⟨all, h4_, h⟩ := h
  replace h := Option.bind_eq_some_iff.1 h
  obtain ⟨⟨ee, e1, e2⟩, h5_, h⟩ := h
  replace h := Option.bind_eq_some_iff.1 h
  obtain ⟨⟨p, p1, p2⟩, h6_, h⟩ := h
  replace h := Option.bind_eq_some_iff.1 h
  obtain ⟨⟨u, ub⟩, h7_, h⟩ := h
  replace h := Option.bind_eq_some_iff.1 h
  obtain ⟨⟨pp, uu⟩, h8_, h⟩ := h
  replace h := Option.bind_eq_some_iff.1 h
  obtain ⟨⟨i, i1, i2⟩, h9_, h⟩ := h
  replace h := Option.bind_eq_some_iff.1 h
  obtain ⟨⟨az, j1, j2⟩, h10_, h⟩ := h
  replace h := Option.bind_eq_some_iff.1 h
  obtain ⟨⟨j, k1, k2⟩, h11_, h⟩ := h
  replace h := Option.bind_eq_some_iff.1 h
  obtain ⟨⟨ks, q2, t1, t2⟩, h12_, h⟩ := h
  replace h := Option.bind_eq_some_iff.1 h
  obtain ⟨ms, h13_, h⟩ := h
  dsimp only at h2_ h3_ h4_ h5_ h6_ h7_ h8_ h9_ h10_ h11_ h12_ h13_ h
  simp only [Option.some.injEq, Prod.mk.injEq] at h
  obtain ⟨rfl, rfl, rfl, rfl⟩ := h
  obtain ⟨ys, hys⟩ : ∃ ys_ : List ByteArray, ys_ = ([(⟨#[97]⟩ : ByteArray), (⟨#[98]⟩ : ByteArray), (⟨#[99]⟩ : ByteArray), (⟨#[105, 116, 101, 109]⟩ : ByteArray)] : List ByteArray) := ⟨_, rfl⟩
  rw [← hys] at h1_
  have Nys := Aside0.mk hys
  clear hys
  obtain ⟨zs, hzs⟩ : ∃ ys_ : List ByteArray, ys_ = ([(⟨#[112]⟩ : ByteArray), (⟨#[113]⟩ : ByteArray)] : List ByteArray) := ⟨_, rfl⟩
  rw [← hzs] at h6_
  have Nzs := Aside0.mk hzs
  clear hzs
  have T1 := Aside0.mk h1_
  have T2 := Aside0.mk h2_
  have T3 := Aside0.mk h3_
  have T4 := Aside0.mk h4_
  have T5 := Aside0.mk h5_
  have T6 := Aside0.mk h6_
  have T7 := Aside0.mk h7_
  have T8 := Aside0.mk h8_
  have T9 := Aside0.mk h9_
  have T10 := Aside0.mk h10_
  have T11 := Aside0.mk h11_
  have T12 := Aside0.mk h12_
  have T13 := Aside0.mk h13_
  have IH := Aside0.mk ih
  have HR := Aside0.mk hr
  have HC := Aside0.mk hc
  have HQ := Aside0.mk (And.intro hI (And.intro hm (And.intro hm0 (And.intro hgm hB))))
  clear ih hr hc hI hm hm0 hgm hB h1_ h2_ h3_ h4_ h5_ h6_ h7_ h8_ h9_ h10_ h11_ h12_ h13_
  have hu34 := Try.underlying34
  have hu90 := Try.underlying90
  go_enter Try.func60, Try.ntmps60
  go_upto_if 23 with (first
      | ((with_reducible refine gate_dst (N := 6) rfl ?_); refine box_event ?hg (N := 6) ?hd (cs := #[.int .i64 0, .string (⟨#[]⟩ : ByteArray), .string (⟨#[]⟩ : ByteArray), .string (⟨#[]⟩ : ByteArray), .slice none 0 0, .slice none 0 0, .slice none 0 0, .string (⟨#[]⟩ : ByteArray)]) (t := 34) ?hr ?_; (case hd => rfl); (case hg => rfl); (case hr => first | (go_simp; done) | (go_simp; rfl)); intro gR hg w1 hbox hb; have HP := Aside0.mk (spec_l5El.P0.new HQ.out.1 HQ.out.2.1 HQ.out.2.2.1 HQ.out.2.2.2.1 HQ.out.2.2.2.2 hg hbox hb); clear hg hbox hb HQ)
      | ((with_reducible refine gate_dst (N := 19) rfl ?_); refine Kd.R_lit Kd.string _ 9 ?hg (N := 19) ?hd (xs := ([(⟨#[97]⟩ : ByteArray), (⟨#[98]⟩ : ByteArray), (⟨#[99]⟩ : ByteArray), (⟨#[105, 116, 101, 109]⟩ : ByteArray)] : List ByteArray)) (inner := [.string (⟨#[97]⟩ : ByteArray), .string (⟨#[98]⟩ : ByteArray), .string (⟨#[99]⟩ : ByteArray), .string (⟨#[105, 116, 101, 109]⟩ : ByteArray)]) (ok := fun _ => True) (okp := fun _ => True) ?hr ?hp (fun _ hk => hk) trivial (Below.refl _ _) (Nat.le_refl _) (by simp) ?_; (case hd => rfl); (case hg => rfl); (case hr => first | (go_simp; done) | (go_simp; rfl)); (case hp => exact (Reps.one (show Kd.M Kd.string _ _ _ (⟨#[97]⟩ : ByteArray) [.string (⟨#[97]⟩ : ByteArray)] from rfl) (Reps.one (show Kd.M Kd.string _ _ _ (⟨#[98]⟩ : ByteArray) [.string (⟨#[98]⟩ : ByteArray)] from rfl) (Reps.one (show Kd.M Kd.string _ _ _ (⟨#[99]⟩ : ByteArray) [.string (⟨#[99]⟩ : ByteArray)] from rfl) (Reps.one (show Kd.M Kd.string _ _ _ (⟨#[105, 116, 101, 109]⟩ : ByteArray) [.string (⟨#[105, 116, 101, 109]⟩ : ByteArray)] from rfl) (Reps.none _ _)))))); intro v3 w3 hs hb hg_ hnew_; clear hg_ hnew_; rw [← Nys.out] at hs; have HL := Aside0.mk hs; clear hs; replace HP := Aside0.mk (spec_l5El.P0.below HP.out hb); clear hb; obtain ⟨Ay, cy, e_⟩ := Kd.R_slice HL.out; subst e_)
      | ((with_reducible refine gate_callee (f := 59) rfl ?_); refine goesL_ (some 20) rfl rfl Try.func59 (by kernel_rfl) rfl #[.pointer (some ⟨g, 0, none⟩), .slice Ay ys.length cy] rfl mA ?_; (with_reducible refine (spec_l1Str.calls g s0 s1 s2 Ay cy ys t _ _ w0 _ (spec_l5El.P0.I HP.out) (spec_l5El.P0.B HP.out) (Kd.R_reads' HL.out).2.2 (Kd.R_reads' HL.out).2.1 (far_slice (IsS99.own_ne (spec_l5El.P0.I HP.out) HL.out (by decide))) T1.out).mono ?_); rintro e w4 ⟨rfl, hI, hB, hk⟩; refine ⟨_, rfl, ?_⟩; replace HP := Aside0.mk (spec_l5El.P0.call HP.out hI hB hk); clear HL hI hB hk)
      | ((with_reducible refine gate_dst (N := 7) rfl ?_); refine box_event ?hg (N := 7) ?hd (cs := #[.int .i64 0, .string (⟨#[]⟩ : ByteArray), .string (⟨#[]⟩ : ByteArray), .string (⟨#[]⟩ : ByteArray), .slice none 0 0, .slice none 0 0, .slice none 0 0, .string (⟨#[]⟩ : ByteArray)]) (t := 34) ?hr ?_; (case hd => rfl); (case hg => rfl); (case hr => first | (go_simp; done) | (go_simp; rfl)); intro gN hg w2 hbox hb; have HS := Aside0.mk (spec_l5El.St.new HP.out hg hbox hb); obtain ⟨zk0, zk1, zk2, zk3, zk4, zk5, zk6, zk7⟩ := bc8 hbox; obtain ⟨yk0, yk1, yk2, yk3, yk4, yk5, yk6, yk7⟩ := bf8 hbox; clear hg hbox hb HP)
      | ((with_reducible refine gate_callee (f := 76) rfl ?_); have hS := spec_l5El.St.set8 (u0 := .int .i64 1) (u1 := .string (⟨#[]⟩ : ByteArray)) (u2 := .string t) (u3 := .string (⟨#[]⟩ : ByteArray)) (u4 := .slice none 0 0) (u5 := .slice none 0 0) (u6 := .slice none 0 0) (u7 := .string (⟨#[]⟩ : ByteArray)) HS.out; replace HS := Aside0.mk hS; clear hS zk0 zk1 zk2 zk3 zk4 zk5 zk6 zk7 yk0 yk1 yk2 yk3 yk4 yk5 yk6 yk7; refine goesL_ (some 23) rfl rfl Try.func76 (by kernel_rfl) rfl #[.pointer (some ⟨g, 0, none⟩), .int .i64 4] rfl mA ?_; (with_reducible refine (spec_l1Once.calls g s0 a1 a2 4 b _ _ w0 _ (spec_l5El.St.I HS.out) (spec_l5El.St.B HS.out) T2.out).mono ?_); rintro e w4 ⟨rfl, hI, hB, hk⟩; refine ⟨_, rfl, ?_⟩; obtain ⟨hS, hO⟩ := spec_l5El.St.call HS.out hI hB hk; replace HS := Aside0.mk hS; clear hS hO hI hB hk))
  try simp only [Act.put, sT, sZ, sS, i64_w, i32_w]
  go_cut [] from 18 (fun wc => ∃ v4 : Value, Aside0 (spec_l5El.St w0 w wc g m gR gN 0 s0 d1 d2 q #[.int .i64 1, .string (⟨#[]⟩ : ByteArray), .string t, .string (⟨#[]⟩ : ByteArray), v4, .slice none 0 0, .slice none 0 0, .string (⟨#[]⟩ : ByteArray)]) ∧ Aside0 (Kd.R k88 88 wc (gN + 1) (fun _ => True) v4 d))
  case first =>
    have h3_ := T3.out
    clear T3
    cases b with
    | true =>
      rw [if_pos rfl] at h3_
      have T3 := Aside0.mk h3_
      clear h3_
      go_wp2_with (first
          | ((with_reducible refine gate_callee (f := 77) rfl ?_); refine goesL_ (some 25) rfl rfl Try.func77 (by kernel_rfl) rfl #[.pointer (some ⟨g, 0, none⟩)] rfl mA ?_; (with_reducible refine (spec_l4Draw.calls k g s0 b1 b2 d d1 d2 w0 _ (spec_l5El.St.I HS.out) (spec_l5El.St.B HS.out) T3.out).mono ?_); rintro e w4 ⟨v4, rfl, h4, hI, hB, hk⟩; refine ⟨_, rfl, ?_⟩; have H4 := Aside0.mk (Kd.R_lower h4 (Nat.succ_le_of_lt (spec_l5El.St.lt HS.out))); obtain ⟨hS, hO⟩ := spec_l5El.St.call HS.out hI hB hk; replace HS := Aside0.mk hS; clear hS hO h4 hI hB hk; have z4 := (blk_cell (spec_l5El.St.C HS.out) 4).trans (show _ = some (.slice none 0 0) from rfl); have y4 := blk_frozen (spec_l5El.St.C HS.out) 4; obtain ⟨A4, c4, e_⟩ := Kd.R_slice H4.out; subst e_))
      go_meet
      obtain ⟨hS, hO⟩ := spec_l5El.St.set HS.out 4 (.slice A4 d.length c4) (vs' := #[.int .i64 1, .string (⟨#[]⟩ : ByteArray), .string t, .string (⟨#[]⟩ : ByteArray), (.slice A4 d.length c4), .slice none 0 0, .slice none 0 0, .string (⟨#[]⟩ : ByteArray)]) rfl
      case rel => exact ⟨_, ⟨hS⟩, ⟨spec_l5El.R_off H4.out hO (Nat.lt_succ_self _)⟩⟩
    | false =>
      rw [if_neg (by simp)] at h3_
      simp only [Option.some.injEq, Prod.mk.injEq] at h3_
      obtain ⟨rfl, rfl, rfl⟩ := h3_
      go_wp2
      go_meet
      case rel => exact ⟨.slice none 0 0, HS, ⟨Kd.R_nil _ _ _ _ _⟩⟩
  case rest =>
  obtain ⟨v4, HS, H4⟩ := hcut
  obtain ⟨A4, c4, e_⟩ := Kd.R_slice H4.out
  subst e_
  clear T3
  have z4 := (blk_cell (spec_l5El.St.C HS.out) 4).trans (show _ = some (.slice A4 d.length c4) from rfl)
  go_upto_if 32 with (first
      | ((with_reducible refine gate_callee (f := 78) rfl ?_); refine goesL_ (some 30) rfl rfl Try.func78 (by kernel_rfl) rfl #[.slice A1 l.length c1, .slice A4 d.length c4] rfl mA ?_; (with_reducible refine (spec_Inner.calls A1 c1 l A4 c4 d all _ (HR.out _ (spec_l5El.St.K HS.out)) HC.out (Kd.R_reads' H4.out).2.2 (Kd.R_reads' H4.out).2.1 T4.out).mono ?_); rintro e w5 ⟨vA, rfl, hA, hb⟩; refine ⟨_, rfl, ?_⟩; have HA := Aside0.mk (Kd.R_lower hA (Nat.succ_le_of_lt (spec_l5El.St.lt HS.out))); clear hA z4; obtain ⟨hS, hO⟩ := spec_l5El.St.below HS.out hb; replace H4 := Aside0.mk (spec_l5El.R_off H4.out hO (Nat.lt_succ_self _)); replace HS := Aside0.mk hS; clear hS hO hb; obtain ⟨AA, cA, e_⟩ := Kd.R_slice HA.out; subst e_)
      | ((with_reducible refine gate_callee (f := 76) rfl ?_); refine goesL_ (some 32) rfl rfl Try.func76 (by kernel_rfl) rfl #[.pointer (some ⟨g, 0, none⟩), .int .i64 4] rfl mA ?_; (with_reducible refine (spec_l1Once.calls g s0 d1 d2 4 ee _ _ w0 _ (spec_l5El.St.I HS.out) (spec_l5El.St.B HS.out) T5.out).mono ?_); rintro e w4 ⟨rfl, hI, hB, hk⟩; refine ⟨_, rfl, ?_⟩; obtain ⟨hS, hO⟩ := spec_l5El.St.call HS.out hI hB hk; replace H4 := Aside0.mk (spec_l5El.R_off H4.out hO (Nat.lt_succ_self _)); replace HA := Aside0.mk (spec_l5El.R_off HA.out hO (Nat.lt_succ_self _)); replace HS := Aside0.mk hS; clear hS hO hI hB hk))
  try simp only [Act.put, sT, sZ, sS, i64_w, i32_w]
  go_cut [] from 18 (fun wc => Aside0 (spec_l5El.St w0 w wc g m gR gN 0 s0 p1 p2 q #[.int .i64 1, .string p, .string t, .string (⟨#[]⟩ : ByteArray), .slice A4 d.length c4, .slice none 0 0, .slice none 0 0, .string (⟨#[]⟩ : ByteArray)]) ∧ Aside0 (Kd.R k88 88 wc (gN + 1) (fun _ => True) (.slice A4 d.length c4) d) ∧ Aside0 (Kd.R k88 88 wc (gN + 1) (fun _ => True) (.slice AA all.length cA) all))
  case first =>
    have h6_ := T6.out
    clear T6
    cases ee with
    | true =>
      rw [if_pos rfl] at h6_
      have T6 := Aside0.mk h6_
      clear h6_
      go_wp2_with (first
          | ((with_reducible refine gate_dst (N := 34) rfl ?_); refine Kd.R_lit Kd.string _ 9 ?hg (N := 34) ?hd (xs := ([(⟨#[112]⟩ : ByteArray), (⟨#[113]⟩ : ByteArray)] : List ByteArray)) (inner := [.string (⟨#[112]⟩ : ByteArray), .string (⟨#[113]⟩ : ByteArray)]) (ok := fun _ => True) (okp := fun _ => True) ?hr ?hp (fun _ hk => hk) trivial (Below.refl _ _) (Nat.le_refl _) (by simp) ?_; (case hd => rfl); (case hg => rfl); (case hr => first | (go_simp; done) | (go_simp; rfl)); (case hp => exact (Reps.one (show Kd.M Kd.string _ _ _ (⟨#[112]⟩ : ByteArray) [.string (⟨#[112]⟩ : ByteArray)] from rfl) (Reps.one (show Kd.M Kd.string _ _ _ (⟨#[113]⟩ : ByteArray) [.string (⟨#[113]⟩ : ByteArray)] from rfl) (Reps.none _ _)))); intro v3 w3 hs hb hg_ hnew_; clear hg_ hnew_; rw [← Nzs.out] at hs; have HL := Aside0.mk hs; clear hs; obtain ⟨hS, hO⟩ := spec_l5El.St.below HS.out hb; replace H4 := Aside0.mk (spec_l5El.R_off H4.out hO (Nat.lt_succ_self _)); replace HA := Aside0.mk (spec_l5El.R_off HA.out hO (Nat.lt_succ_self _)); replace HS := Aside0.mk hS; clear hS hO hb; obtain ⟨Ay, cy, e_⟩ := Kd.R_slice HL.out; subst e_)
          | ((with_reducible refine gate_callee (f := 59) rfl ?_); refine goesL_ (some 35) rfl rfl Try.func59 (by kernel_rfl) rfl #[.pointer (some ⟨g, 0, none⟩), .slice Ay zs.length cy] rfl mA ?_; (with_reducible refine (spec_l1Str.calls g s0 e1 e2 Ay cy zs p _ _ w0 _ (spec_l5El.St.I HS.out) (spec_l5El.St.B HS.out) (Kd.R_reads' HL.out).2.2 (Kd.R_reads' HL.out).2.1 (far_slice (IsS99.own_ne (spec_l5El.St.I HS.out) HL.out (by decide))) T6.out).mono ?_); rintro e w4 ⟨rfl, hI, hB, hk⟩; refine ⟨_, rfl, ?_⟩; obtain ⟨hS, hO⟩ := spec_l5El.St.call HS.out hI hB hk; replace H4 := Aside0.mk (spec_l5El.R_off H4.out hO (Nat.lt_succ_self _)); replace HA := Aside0.mk (spec_l5El.R_off HA.out hO (Nat.lt_succ_self _)); replace HS := Aside0.mk hS; clear hS hO; have z1 := (blk_cell (spec_l5El.St.C HS.out) 1).trans (show _ = some (.string (⟨#[]⟩ : ByteArray)) from rfl); have y1 := blk_frozen (spec_l5El.St.C HS.out) 1; clear HL hI hB hk))
      go_meet
      obtain ⟨hS, hO⟩ := spec_l5El.St.set HS.out 1 (.string p) (vs' := #[.int .i64 1, .string p, .string t, .string (⟨#[]⟩ : ByteArray), .slice A4 d.length c4, .slice none 0 0, .slice none 0 0, .string (⟨#[]⟩ : ByteArray)]) rfl
      case rel => exact ⟨⟨hS⟩, ⟨spec_l5El.R_off H4.out hO (Nat.lt_succ_self _)⟩, ⟨spec_l5El.R_off HA.out hO (Nat.lt_succ_self _)⟩⟩
    | false =>
      rw [if_neg (by simp)] at h6_
      simp only [Option.some.injEq, Prod.mk.injEq] at h6_
      obtain ⟨rfl, rfl, rfl⟩ := h6_
      go_wp2
      go_meet
      case rel => exact ⟨HS, H4, HA⟩
  case rest =>
  obtain ⟨HS, H4, HA⟩ := hcut
  clear T6 T4 T5 T2 T1
  have z1 := (blk_cell (spec_l5El.St.C HS.out) 1).trans (show _ = some (.string p) from rfl)
  go_upto_if 45 with (first
      | ((with_reducible refine gate_callee (f := 79) rfl ?_); refine goesL_ (some 41) rfl rfl Try.func79 (by kernel_rfl) rfl #[.slice AA all.length cA, .string p] rfl mA ?_; (with_reducible refine (spec_SpaceOf.calls k AA cA all p u ub _ (Kd.R_reads' HA.out).2.2 (Kd.R_reads' HA.out).2.1 T7.out).mono ?_); rintro e w5 ⟨rfl, hd_⟩; refine ⟨_, rfl, ?_⟩; have hb := hd_.below; clear hd_; obtain ⟨hS, hO⟩ := spec_l5El.St.below HS.out hb; replace H4 := Aside0.mk (spec_l5El.R_off H4.out hO (Nat.lt_succ_self _)); replace HA := Aside0.mk (spec_l5El.R_off HA.out hO (Nat.lt_succ_self _)); replace HS := Aside0.mk hS; clear hS hO hb; clear z1))
  try simp only [Act.put, sT, sZ, sS, i64_w, i32_w]
  go_cut [9] from 18 (fun v9 wc => v9 = .string uu ∧ Aside0 (spec_l5El.St w0 w wc g m gR gN 0 s0 p1 p2 q #[.int .i64 1, .string pp, .string t, .string (⟨#[]⟩ : ByteArray), .slice A4 d.length c4, .slice none 0 0, .slice none 0 0, .string (⟨#[]⟩ : ByteArray)]) ∧ Aside0 (Kd.R k88 88 wc (gN + 1) (fun _ => True) (.slice A4 d.length c4) d) ∧ Aside0 (Kd.R k88 88 wc (gN + 1) (fun _ => True) (.slice AA all.length cA) all))
  case first =>
    have h8_ := T8.out
    clear T8
    cases ub with
    | true =>
      rw [if_pos rfl] at h8_
      simp only [Option.some.injEq, Prod.mk.injEq] at h8_
      obtain ⟨rfl, rfl⟩ := h8_
      go_wp2
      go_meet
      case rel => exact ⟨rfl, HS, H4, HA⟩
    | false =>
      rw [if_neg (by simp)] at h8_
      obtain ⟨⟨u9, ub9⟩, h8b, h8_⟩ := Option.bind_eq_some_iff.1 h8_
      simp only [Option.some.injEq, Prod.mk.injEq] at h8_
      obtain ⟨rfl, rfl⟩ := h8_
      have T8 := Aside0.mk h8b
      clear h8b
      have z1 := (blk_cell (spec_l5El.St.C HS.out) 1).trans (show _ = some (.string p) from rfl)
      have y1 := blk_frozen (spec_l5El.St.C HS.out) 1
      go_wp2_with (first
          | ((with_reducible refine gate_callee (f := 79) rfl ?_); obtain ⟨hS, hO⟩ := spec_l5El.St.set HS.out 1 (.string (⟨#[]⟩ : ByteArray)) (vs' := #[.int .i64 1, .string (⟨#[]⟩ : ByteArray), .string t, .string (⟨#[]⟩ : ByteArray), .slice A4 d.length c4, .slice none 0 0, .slice none 0 0, .string (⟨#[]⟩ : ByteArray)]) rfl; replace H4 := Aside0.mk (spec_l5El.R_off H4.out hO (Nat.lt_succ_self _)); replace HA := Aside0.mk (spec_l5El.R_off HA.out hO (Nat.lt_succ_self _)); replace HS := Aside0.mk hS; clear hS hO; refine goesL_ (some 49) rfl rfl Try.func79 (by kernel_rfl) rfl #[.slice AA all.length cA, .string (⟨#[]⟩ : ByteArray)] rfl mA ?_; (with_reducible refine (spec_SpaceOf.calls k AA cA all (⟨#[]⟩ : ByteArray) u9 ub9 _ (Kd.R_reads' HA.out).2.2 (Kd.R_reads' HA.out).2.1 T8.out).mono ?_); rintro e w5 ⟨rfl, hd_⟩; refine ⟨_, rfl, ?_⟩; have hb := hd_.below; clear hd_; obtain ⟨hS, hO⟩ := spec_l5El.St.below HS.out hb; replace H4 := Aside0.mk (spec_l5El.R_off H4.out hO (Nat.lt_succ_self _)); replace HA := Aside0.mk (spec_l5El.R_off HA.out hO (Nat.lt_succ_self _)); replace HS := Aside0.mk hS; clear hS hO hb))
      go_meet
      case rel => exact ⟨rfl, HS, H4, HA⟩
  case rest =>
  obtain ⟨rfl, HS, H4, HA⟩ := hcut
  clear T8 T7
  have z3 := (blk_cell (spec_l5El.St.C HS.out) 3).trans (show _ = some (.string (⟨#[]⟩ : ByteArray)) from rfl)
  have y3 := blk_frozen (spec_l5El.St.C HS.out) 3
  go_wp2_with (first
      | ((with_reducible refine gate_callee (f := 58) rfl ?_); obtain ⟨hS, hO⟩ := spec_l5El.St.set HS.out 3 (.string uu) (vs' := #[.int .i64 1, .string pp, .string t, .string uu, .slice A4 d.length c4, .slice none 0 0, .slice none 0 0, .string (⟨#[]⟩ : ByteArray)]) rfl; replace H4 := Aside0.mk (spec_l5El.R_off H4.out hO (Nat.lt_succ_self _)); replace HA := Aside0.mk (spec_l5El.R_off HA.out hO (Nat.lt_succ_self _)); replace HS := Aside0.mk hS; clear hS hO; clear z3 y3; refine goesL_ (some 55) rfl rfl Try.func58 (by kernel_rfl) rfl #[.pointer (some ⟨g, 0, none⟩), .int .i64 3] rfl mA ?_; (with_reducible refine (spec_l1Below.calls g s0 p1 p2 3 i _ _ w0 _ (spec_l5El.St.I HS.out) (spec_l5El.St.B HS.out) T9.out).mono ?_); rintro e w4 ⟨rfl, hI, hB, hk⟩; refine ⟨_, rfl, ?_⟩; obtain ⟨hS, hO⟩ := spec_l5El.St.call HS.out hI hB hk; replace H4 := Aside0.mk (spec_l5El.R_off H4.out hO (Nat.lt_succ_self _)); replace HA := Aside0.mk (spec_l5El.R_off HA.out hO (Nat.lt_succ_self _)); replace HS := Aside0.mk hS; clear hS hO hI hB hk))
  have hz := spec_l5El.St.renew HS.out
  have hlt := spec_l5El.St.lt HS.out
  have h4 := Kd.R_mono (ok' := fun k_ => k_ < _) (Kd.R_bound H4.out) (fun _ h_ => h_.2.2.1)
  have hA := Kd.R_mono (ok' := fun k_ => k_ < _) (Kd.R_bound HA.out) (fun _ h_ => h_.2.2.1)
  obtain ⟨N1, hN1, hz, h4, hA⟩ : ∃ N1 : Nat, gN < N1 ∧ spec_l5El.St w0 w _ g m gR gN N1 s0 i1 i2 q #[.int .i64 1, .string pp, .string t, .string uu, .slice A4 d.length c4, .slice none 0 0, .slice none 0 0, .string (⟨#[]⟩ : ByteArray)] ∧ Kd.R k88 88 _ (gN + 1) (fun k_ => k_ < N1) (.slice A4 d.length c4) d ∧ Kd.R k88 88 _ (gN + 1) (fun k_ => k_ < N1) (.slice AA all.length cA) all := ⟨_, hlt, hz, h4, hA⟩
  have HN1 := Aside0.mk hN1
  replace HS := Aside0.mk hz
  replace H4 := Aside0.mk h4
  replace HA := Aside0.mk hA
  clear hN1 hz h4 hA hlt
  go_loopg [11] k (fun gg s11 wr => ∃ (n : Nat) (i : Int) (acc : List S90) (s1 s2 : Int) (v5 : Value), n ≤ gg ∧ s11 = .int .i64 i ∧ Aside0 (spec_l5El.ats k s0 all n i acc s1 s2 = some (az, j1, j2)) ∧ Aside0 (spec_l5El.St w0 w wr g m gR gN N1 s0 s1 s2 q #[.int .i64 1, .string pp, .string t, .string uu, .slice A4 d.length c4, v5, .slice none 0 0, .string (⟨#[]⟩ : ByteArray)]) ∧ Aside0 (Kd.R k88 88 wr (gN + 1) (fun k_ => k_ < N1) (.slice A4 d.length c4) d) ∧ Aside0 (Kd.R k88 88 wr (gN + 1) (fun k_ => k_ < N1) (.slice AA all.length cA) all) ∧ Aside0 (Kd.R k90 90 wr N1 (fun _ => True) v5 acc))
  case atStart => exact ⟨k, i, [], i1, i2, .slice none 0 0, Nat.le_refl _, rfl, T10, HS, H4, HA, ⟨Kd.R_nil _ _ _ _ _⟩⟩
  case round =>
    clear T9 T10 HS H4 HA
    obtain ⟨n, i, acc, s1, s2, v5, hgg, rfl, TH, HS, H4, HA, H5⟩ := hrel
    obtain ⟨A5, c5, e_⟩ := Kd.R_slice H5.out
    subst e_
    cases n with
    | zero => exact absurd TH.out (by simp [spec_l5El.ats])
    | succ n =>
    have h := TH.out
    simp only [spec_l5El.ats] at h
    clear TH
    by_cases hi : i > 0
    case pos =>
      rw [if_pos hi] at h
      replace h := if_som h
      obtain ⟨⟨hl, hi2⟩, h⟩ := h
      replace h := Option.bind_eq_some_iff.1 h
      obtain ⟨⟨t', m1, m2⟩, h1_, h⟩ := h
      replace h := Option.bind_eq_some_iff.1 h
      obtain ⟨⟨v, n1, n2⟩, h2_, h⟩ := h
      replace h := Option.bind_eq_some_iff.1 h
      obtain ⟨⟨p', o1, o2⟩, h3_, h⟩ := h
      replace h := Option.bind_eq_some_iff.1 h
      obtain ⟨⟨x, xb⟩, h4_, h⟩ := h
      replace h := Option.bind_eq_some_iff.1 h
      obtain ⟨bb, h5_, h⟩ := h
      dsimp only at h2_ h3_ h4_ h5_ h
      obtain ⟨ys2, hys2⟩ : ∃ ys_ : List ByteArray, ys_ = ([(⟨#[105, 100]⟩ : ByteArray), (⟨#[107]⟩ : ByteArray), (⟨#[118]⟩ : ByteArray)] : List ByteArray) := ⟨_, rfl⟩
      rw [← hys2] at h1_
      have Nys2 := Aside0.mk hys2
      clear hys2
      obtain ⟨zs2, hzs2⟩ : ∃ ys_ : List ByteArray, ys_ = ([(⟨#[]⟩ : ByteArray), (⟨#[]⟩ : ByteArray), (⟨#[112]⟩ : ByteArray)] : List ByteArray) := ⟨_, rfl⟩
      rw [← hzs2] at h3_
      have Nzs2 := Aside0.mk hzs2
      clear hzs2
      obtain ⟨y, hy⟩ : ∃ y_ : S90, y_ = (if p'.toList ≠ [] ∧ xb = true then ⟨p', t', x, v⟩ else ⟨(⟨#[]⟩ : ByteArray), t', (⟨#[]⟩ : ByteArray), v⟩ : S90) := ⟨_, rfl⟩
      rw [← hy] at h5_ h
      have NY := Aside0.mk hy
      have U1 := Aside0.mk h1_
      have U2 := Aside0.mk h2_
      have U3 := Aside0.mk h3_
      have U4 := Aside0.mk h4_
      have U5 := Aside0.mk h5_
      have UH := Aside0.mk h
      have HIB := Aside0.mk (And.intro hi (And.intro hi2 (And.intro hl hgg)))
      have hd : decide (0 < i) = true := decide_eq_true hi
      clear hy h h1_ h2_ h3_ h4_ h5_ hi hi2 hl hgg
      go_upto_region 18 with (first
          | ((with_reducible refine gate_dst (N := 61) rfl ?_); refine Kd.R_lit Kd.string _ 9 ?hg (N := 61) ?hd (xs := ([(⟨#[105, 100]⟩ : ByteArray), (⟨#[107]⟩ : ByteArray), (⟨#[118]⟩ : ByteArray)] : List ByteArray)) (inner := [.string (⟨#[105, 100]⟩ : ByteArray), .string (⟨#[107]⟩ : ByteArray), .string (⟨#[118]⟩ : ByteArray)]) (ok := fun _ => True) (okp := fun _ => True) ?hr ?hp (fun _ hk => hk) trivial (Below.refl _ _) (Nat.le_refl _) (by simp) ?_; (case hd => rfl); (case hg => rfl); (case hr => first | (go_simp; done) | (go_simp; rfl)); (case hp => exact (Reps.one (show Kd.M Kd.string _ _ _ (⟨#[105, 100]⟩ : ByteArray) [.string (⟨#[105, 100]⟩ : ByteArray)] from rfl) (Reps.one (show Kd.M Kd.string _ _ _ (⟨#[107]⟩ : ByteArray) [.string (⟨#[107]⟩ : ByteArray)] from rfl) (Reps.one (show Kd.M Kd.string _ _ _ (⟨#[118]⟩ : ByteArray) [.string (⟨#[118]⟩ : ByteArray)] from rfl) (Reps.none _ _))))); intro v3 w3 hs hb hg_ hnew_; clear hg_ hnew_; rw [← Nys2.out] at hs; have HL := Aside0.mk hs; clear hs; obtain ⟨hS, hO⟩ := spec_l5El.St.below HS.out hb; replace H4 := Aside0.mk (spec_l5El.R_off H4.out hO (Nat.lt_succ_self _)); replace HA := Aside0.mk (spec_l5El.R_off HA.out hO (Nat.lt_succ_self _)); replace H5 := Aside0.mk (spec_l5El.R_off H5.out hO HN1.out); replace HS := Aside0.mk hS; clear hS hO hb; obtain ⟨Ay, cy, e_⟩ := Kd.R_slice HL.out; subst e_)
          | ((with_reducible refine gate_callee (f := 59) rfl ?_); refine goesL_ (some 62) rfl rfl Try.func59 (by kernel_rfl) rfl #[.pointer (some ⟨g, 0, none⟩), .slice Ay ys2.length cy] rfl mA ?_; (with_reducible refine (spec_l1Str.calls g s0 s1 s2 Ay cy ys2 t' _ _ w0 _ (spec_l5El.St.I HS.out) (spec_l5El.St.B HS.out) (Kd.R_reads' HL.out).2.2 (Kd.R_reads' HL.out).2.1 (far_slice (IsS99.own_ne (spec_l5El.St.I HS.out) HL.out (by decide))) U1.out).mono ?_); rintro e w4 ⟨rfl, hI, hB, hk⟩; refine ⟨_, rfl, ?_⟩; obtain ⟨hS, hO⟩ := spec_l5El.St.call HS.out hI hB hk; replace H4 := Aside0.mk (spec_l5El.R_off H4.out hO (Nat.lt_succ_self _)); replace HA := Aside0.mk (spec_l5El.R_off HA.out hO (Nat.lt_succ_self _)); replace H5 := Aside0.mk (spec_l5El.R_off H5.out hO HN1.out); replace HS := Aside0.mk hS; clear hS hO; clear HL hI hB hk)
          | ((with_reducible refine gate_callee (f := 80) rfl ?_); refine goesL_ (some 64) rfl rfl Try.func80 (by kernel_rfl) rfl #[.pointer (some ⟨g, 0, none⟩)] rfl mA ?_; (with_reducible refine (spec_l5Val.calls g s0 m1 m2 v _ _ w0 _ (spec_l5El.St.I HS.out) (spec_l5El.St.B HS.out) U2.out).mono ?_); rintro e w4 ⟨rfl, hI, hB, hk⟩; refine ⟨_, rfl, ?_⟩; obtain ⟨hS, hO⟩ := spec_l5El.St.call HS.out hI hB hk; replace H4 := Aside0.mk (spec_l5El.R_off H4.out hO (Nat.lt_succ_self _)); replace HA := Aside0.mk (spec_l5El.R_off HA.out hO (Nat.lt_succ_self _)); replace H5 := Aside0.mk (spec_l5El.R_off H5.out hO HN1.out); replace HS := Aside0.mk hS; clear hS hO hI hB hk)
          | ((with_reducible refine gate_dst (N := 12) rfl ?_); refine box_event ?hg (N := 12) ?hd (cs := #[.string (⟨#[]⟩ : ByteArray), .string (⟨#[]⟩ : ByteArray), .string (⟨#[]⟩ : ByteArray), .string (⟨#[]⟩ : ByteArray)]) (t := 90) ?hr ?_; (case hd => rfl); (case hg => rfl); (case hr => first | (go_simp; done) | (go_simp; rfl)); intro gA hg w6 hbox hb; have HX := Aside0.mk (spec_l5El.ch4 (b0 := .string (⟨#[]⟩ : ByteArray)) (b1 := .string t') (b2 := .string (⟨#[]⟩ : ByteArray)) (b3 := .string v) hb (Nat.le_of_eq hg.symm)); have BA := Aside0.mk hbox; have HGA := Aside0.mk (show N1 ≤ gA by rw [hg]; exact spec_l5El.St.Z HS.out); replace H5 := Aside0.mk (Kd.R_elderB H5.out gA (Nat.le_of_eq hg.symm)); have z0 := blk_cell hbox 0; have z1 := blk_cell hbox 1; have z2 := blk_cell hbox 2; have z3 := blk_cell hbox 3; have y0 := blk_frozen hbox 0; have y1 := blk_frozen hbox 1; have y2 := blk_frozen hbox 2; have y3 := blk_frozen hbox 3; clear hb hbox hg)
          | ((with_reducible refine gate_dst (N := 67) rfl ?_); obtain ⟨hS, hO⟩ := spec_l5El.St.below HS.out HX.out; replace H4 := Aside0.mk (spec_l5El.R_off H4.out hO (Nat.lt_succ_self _)); replace HA := Aside0.mk (spec_l5El.R_off HA.out hO (Nat.lt_succ_self _)); replace H5 := Aside0.mk (spec_l5El.R_off H5.out hO HN1.out); replace HS := Aside0.mk hS; clear hS hO; replace BA := Aside0.mk (spec_l5El.put4 (b0 := .string (⟨#[]⟩ : ByteArray)) (b1 := .string t') (b2 := .string (⟨#[]⟩ : ByteArray)) (b3 := .string v) BA.out); clear HX z0 z1 z2 z3 y0 y1 y2 y3; refine Kd.R_lit Kd.string _ 9 ?hg (N := 67) ?hd (xs := ([(⟨#[]⟩ : ByteArray), (⟨#[]⟩ : ByteArray), (⟨#[112]⟩ : ByteArray)] : List ByteArray)) (inner := [.string (⟨#[]⟩ : ByteArray), .string (⟨#[]⟩ : ByteArray), .string (⟨#[112]⟩ : ByteArray)]) (ok := fun _ => True) (okp := fun _ => True) ?hr ?hp (fun _ hk => hk) trivial (Below.refl _ _) (Nat.le_refl _) (by simp) ?_; (case hd => rfl); (case hg => rfl); (case hr => first | (go_simp; done) | (go_simp; rfl)); (case hp => exact (Reps.one (show Kd.M Kd.string _ _ _ (⟨#[]⟩ : ByteArray) [.string (⟨#[]⟩ : ByteArray)] from rfl) (Reps.one (show Kd.M Kd.string _ _ _ (⟨#[]⟩ : ByteArray) [.string (⟨#[]⟩ : ByteArray)] from rfl) (Reps.one (show Kd.M Kd.string _ _ _ (⟨#[112]⟩ : ByteArray) [.string (⟨#[112]⟩ : ByteArray)] from rfl) (Reps.none _ _))))); intro v3 w3 hs hb hg_ hnew_; clear hg_ hnew_; rw [← Nzs2.out] at hs; have HL := Aside0.mk hs; clear hs; obtain ⟨hS, hO⟩ := spec_l5El.St.below HS.out hb; replace H4 := Aside0.mk (spec_l5El.R_off H4.out hO (Nat.lt_succ_self _)); replace HA := Aside0.mk (spec_l5El.R_off HA.out hO (Nat.lt_succ_self _)); replace H5 := Aside0.mk (spec_l5El.R_off H5.out hO HN1.out); replace BA := Aside0.mk (spec_l5El.blk_off BA.out hO (Nat.lt_of_lt_of_le HN1.out HGA.out)); replace HS := Aside0.mk hS; clear hS hO hb; obtain ⟨Ay, cy, e_⟩ := Kd.R_slice HL.out; subst e_)
          | ((with_reducible refine gate_callee (f := 59) rfl ?_); refine goesL_ (some 68) rfl rfl Try.func59 (by kernel_rfl) rfl #[.pointer (some ⟨g, 0, none⟩), .slice Ay zs2.length cy] rfl mA ?_; (with_reducible refine (spec_l1Str.calls g s0 n1 n2 Ay cy zs2 p' _ _ w0 _ (spec_l5El.St.I HS.out) (spec_l5El.St.B HS.out) (Kd.R_reads' HL.out).2.2 (Kd.R_reads' HL.out).2.1 (far_slice (IsS99.own_ne (spec_l5El.St.I HS.out) HL.out (by decide))) U3.out).mono ?_); rintro e w4 ⟨rfl, hI, hB, hk⟩; refine ⟨_, rfl, ?_⟩; obtain ⟨hS, hO⟩ := spec_l5El.St.call HS.out hI hB hk; replace H4 := Aside0.mk (spec_l5El.R_off H4.out hO (Nat.lt_succ_self _)); replace HA := Aside0.mk (spec_l5El.R_off HA.out hO (Nat.lt_succ_self _)); replace H5 := Aside0.mk (spec_l5El.R_off H5.out hO HN1.out); replace BA := Aside0.mk (spec_l5El.blk_off BA.out hO (Nat.lt_of_lt_of_le HN1.out HGA.out)); replace HS := Aside0.mk hS; clear hS hO; clear HL hI hB hk)
          | ((with_reducible refine gate_callee (f := 79) rfl ?_); refine goesL_ (some 72) rfl rfl Try.func79 (by kernel_rfl) rfl #[.slice AA all.length cA, .string p'] rfl mA ?_; (with_reducible refine (spec_SpaceOf.calls k AA cA all p' x xb _ (Kd.R_reads' HA.out).2.2 (Kd.R_reads' HA.out).2.1 U4.out).mono ?_); rintro e w5 ⟨rfl, hd_⟩; refine ⟨_, rfl, ?_⟩; have hb := hd_.below; clear hd_; obtain ⟨hS, hO⟩ := spec_l5El.St.below HS.out hb; replace H4 := Aside0.mk (spec_l5El.R_off H4.out hO (Nat.lt_succ_self _)); replace HA := Aside0.mk (spec_l5El.R_off HA.out hO (Nat.lt_succ_self _)); replace H5 := Aside0.mk (spec_l5El.R_off H5.out hO HN1.out); replace BA := Aside0.mk (spec_l5El.blk_off BA.out hO (Nat.lt_of_lt_of_le HN1.out HGA.out)); replace HS := Aside0.mk hS; clear hS hO hb))
      try simp only [Act.put, sT, sZ, sS, i64_w, i32_w]
      go_cut [79] from 56 to 105 (fun v79 wc => v79 = .bool (decide (p'.toList ≠ [] ∧ xb = true)) ∧ Aside0 (spec_l5El.St w0 w wc g m gR gN N1 s0 o1 o2 q #[.int .i64 1, .string pp, .string t, .string uu, .slice A4 d.length c4, (.slice A5 acc.length c5), .slice none 0 0, .string (⟨#[]⟩ : ByteArray)]) ∧ Aside0 (Kd.R k88 88 wc (gN + 1) (fun k_ => k_ < N1) (.slice A4 d.length c4) d) ∧ Aside0 (Kd.R k88 88 wc (gN + 1) (fun k_ => k_ < N1) (.slice AA all.length cA) all) ∧ Aside0 (Kd.R k90 90 wc N1 (fun k_ => True ∧ k_ ≠ gA) (.slice A5 acc.length c5) acc) ∧ Aside0 (wc.heap[gA]? = some (.cells #[.string (⟨#[]⟩ : ByteArray), .string t', .string (⟨#[]⟩ : ByteArray), .string v] 90 (0, 0))))
      case first =>
        by_cases hp : p'.toList = []
        · obtain ⟨hpa, hpb⟩ := eqT hp
          go_wp2
          go_meet
          case rel => exact ⟨by simp [hp], HS, H4, HA, H5, BA⟩
        · obtain ⟨hpa, hpb⟩ := eqF hp
          go_wp2
          go_meet
          case rel => exact ⟨by simp [hp], HS, H4, HA, H5, BA⟩
      case rest =>
      clear HS H4 HA H5 BA
      obtain ⟨rfl, HS, H4, HA, H5, BA⟩ := hcut
      obtain ⟨cb, hcb⟩ : ∃ cb : Bool, cb = decide (p'.toList ≠ [] ∧ xb = true) := ⟨_, rfl⟩
      rw [← hcb]
      have NCB := Aside0.mk hcb
      clear hcb
      go_upto_if 79 with (fail)
      try simp only [Act.put, sT, sZ, sS, i64_w, i32_w]
      go_cut [] from 56 to 105 (fun wc => Aside0 (spec_l5El.St w0 w wc g m gR gN N1 s0 o1 o2 q #[.int .i64 1, .string pp, .string t, .string uu, .slice A4 d.length c4, (.slice A5 acc.length c5), .slice none 0 0, .string (⟨#[]⟩ : ByteArray)]) ∧ Aside0 (Kd.R k88 88 wc (gN + 1) (fun k_ => k_ < N1) (.slice A4 d.length c4) d) ∧ Aside0 (Kd.R k88 88 wc (gN + 1) (fun k_ => k_ < N1) (.slice AA all.length cA) all) ∧ Aside0 (Kd.R k90 90 wc N1 (fun k_ => True ∧ k_ ≠ gA) (.slice A5 acc.length c5) acc) ∧ Aside0 (wc.heap[gA]? = some (.cells #[.string y.f0, .string y.f1, .string y.f2, .string y.f3] 90 (0, 0))))
      case first =>
        have hy := NY.out
        have hcb := NCB.out
        clear NY NCB
        cases cb with
        | false =>
          have he_ := of_decide_eq_false hcb.symm
          rw [if_neg he_] at hy
          have HY := Aside0.mk hy
          clear hy hcb he_
          go_wp2
          go_meet
          case rel => exact ⟨HS, H4, HA, H5, ⟨by rw [HY.out]; exact BA.out⟩⟩
        | true =>
          have he_ := of_decide_eq_true hcb.symm
          rw [if_pos he_] at hy
          have HY := Aside0.mk hy
          clear hy hcb he_
          have z0 := (blk_cell BA.out 0).trans (show _ = some (.string (⟨#[]⟩ : ByteArray)) from rfl)
          have z2 := (blk_cell BA.out 2).trans (show _ = some (.string (⟨#[]⟩ : ByteArray)) from rfl)
          have y0 := blk_frozen BA.out 0
          have y2 := blk_frozen BA.out 2
          go_wp2
          go_meet
          have hf : ∀ k_, k_ < N1 → k_ ≠ gA := fun k_ h_ => Nat.ne_of_lt (Nat.lt_of_lt_of_le h_ HGA.out)
          case rel => exact ⟨⟨spec_l5El.St.far (spec_l5El.St.far HS.out (Nat.lt_of_lt_of_le HN1.out HGA.out) 0 (.string p')) (Nat.lt_of_lt_of_le HN1.out HGA.out) 2 (.string x)⟩, ⟨Kd.R_far (p := ⟨gA, 2, none⟩) (Kd.R_far (p := ⟨gA, 0, none⟩) H4.out hf (.string p')) hf (.string x)⟩, ⟨Kd.R_far (p := ⟨gA, 2, none⟩) (Kd.R_far (p := ⟨gA, 0, none⟩) HA.out hf (.string p')) hf (.string x)⟩, ⟨Kd.R_far (p := ⟨gA, 2, none⟩) (Kd.R_far (p := ⟨gA, 0, none⟩) H5.out (fun _ h_ => h_.2) (.string p')) (fun _ h_ => h_.2) (.string x)⟩, ⟨by rw [HY.out]; exact blk_put (cs := #[.string p', .string t', .string (⟨#[]⟩ : ByteArray), .string v]) (blk_put BA.out 0 (.string p') rfl) 2 (.string x) rfl⟩⟩
      case rest =>
      clear HS H4 HA H5 BA NY NCB
      obtain ⟨HS, H4, HA, H5, BA⟩ := hcut
      go_upto_region 21 with (fail)
      try simp only [Act.put, sT, sZ, sS, i64_w, i32_w]
      go_cut [99] from 56 to 105 (fun v99 wc => v99 = .bool bb ∧ Aside0 (spec_l5El.St w0 w wc g m gR gN N1 s0 o1 o2 q #[.int .i64 1, .string pp, .string t, .string uu, .slice A4 d.length c4, (.slice A5 acc.length c5), .slice none 0 0, .string (⟨#[]⟩ : ByteArray)]) ∧ Aside0 (Kd.R k88 88 wc (gN + 1) (fun k_ => k_ < N1) (.slice A4 d.length c4) d) ∧ Aside0 (Kd.R k88 88 wc (gN + 1) (fun k_ => k_ < N1) (.slice AA all.length cA) all) ∧ Aside0 (Kd.R k90 90 wc N1 (fun k_ => True ∧ k_ ≠ gA) (.slice A5 acc.length c5) acc) ∧ Aside0 (wc.heap[gA]? = some (.cells #[.string y.f0, .string y.f1, .string y.f2, .string y.f3] 90 (0, 0))))
      case first =>
        by_cases h0 : (acc.length : Int) = 0
        · have hbb : bb = true := by have e_ := U5.out; have e2_ : acc = [] := List.length_eq_zero_iff.1 (by omega); rw [e2_] at e_; simpa [spec_l5El.less] using e_.symm
          subst hbb
          have h0a : ((acc.length : Int) == 0) = true := beq_iff_eq.mpr h0
          clear h0
          obtain ⟨hS, hO⟩ := spec_l5El.St.below HS.out (below_drew (Below.refl _ _))
          replace H4 := Aside0.mk (spec_l5El.R_off H4.out hO (Nat.lt_succ_self _))
          replace HA := Aside0.mk (spec_l5El.R_off HA.out hO (Nat.lt_succ_self _))
          replace H5 := Aside0.mk (spec_l5El.R_off H5.out hO HN1.out)
          replace BA := Aside0.mk (spec_l5El.blk_off BA.out hO (Nat.lt_of_lt_of_le HN1.out HGA.out))
          replace HS := Aside0.mk hS
          clear hS hO
          refine start_ (n := 16) (S := fun w' => w'.cell? ⟨gN, 5, none⟩ = some (.slice A5 acc.length c5)) (ds := []) #[false, false, false, false, false, false, false, false, false, false, false, false, false, false, false, false] (by kernel_rfl) rfl rfl ((blk_cell (spec_l5El.St.C HS.out) 5).trans rfl) (fun hHeld => ?_)
          generalize World.drew _ = w5 at HS H4 HA H5 BA hHeld ⊢
          refine pure_ (i := 0) (N := some 84) (v := ?_) (a' := ?_) #[true, false, false, false, false, false, false, false, false, false, false, false, false, false, false, false] rfl rfl (by kernel_rfl) (fun _ _ _ h => h) (Or.inl ⟨by rfl, ?_⟩) ?_ ?_
          rotate_left
          · intro w'
            go_simp
            with_reducible rfl
          rotate_left
          · simp only [Act.put, sT, sZ, sS, i64_w, i32_w]
            rfl
          refine take_ (i := 1) (N := some 85) (v := ?_) (a' := ?_) #[true, true, false, false, false, false, false, false, false, false, false, false, false, false, false, false] rfl rfl (by kernel_rfl) (fun _ _ _ h => h) (Or.inl ⟨by rfl, ?_⟩) hHeld ?_ ?_
          rotate_left
          · rintro w' q0_
            go_simp
            with_reducible rfl
          rotate_left
          · simp only [Act.put, sT, sZ, sS, i64_w, i32_w]
            rfl
          refine pure_ (i := 2) (N := some 86) (v := ?_) (a' := ?_) #[true, true, true, false, false, false, false, false, false, false, false, false, false, false, false, false] rfl rfl (by kernel_rfl) (fun _ _ _ h => h) (Or.inl ⟨by rfl, ?_⟩) ?_ ?_
          rotate_left
          · intro w'
            go_simp
            with_reducible rfl
          rotate_left
          · simp only [Act.put, sT, sZ, sS, i64_w, i32_w]
            rfl
          refine pure_ (i := 3) (N := some 87) (v := ?_) (a' := ?_) #[true, true, true, true, false, false, false, false, false, false, false, false, false, false, false, false] rfl rfl (by kernel_rfl) (fun _ _ _ h => h) (Or.inl ⟨by rfl, ?_⟩) ?_ ?_
          rotate_left
          · intro w'
            go_simp
            with_reducible rfl
          rotate_left
          · simp only [Act.put, sT, sZ, sS, i64_w, i32_w]
            rfl
          refine pure_ (i := 4) (N := some 88) (v := ?_) (a' := ?_) #[true, true, true, true, true, false, false, false, false, false, false, false, false, false, false, false] rfl rfl (by kernel_rfl) (fun _ _ _ h => h) (Or.inl ⟨by rfl, ?_⟩) ?_ ?_
          rotate_left
          · intro w'
            go_simp
            with_reducible rfl
          rotate_left
          · simp only [Act.put, sT, sZ, sS, i64_w, i32_w]
            rfl
          refine pure_ (i := 5) (N := some 89) (v := undef) (a' := ?_) #[true, true, true, true, true, true, false, false, false, false, false, false, false, false, false, false] rfl rfl (by kernel_rfl) (fun _ _ _ h => h) (Or.inr ⟨by rfl, rfl⟩) ?_ ?_
          rotate_left
          · simp only [Act.put, sT, sZ, sS, i64_w, i32_w]
            rfl
          refine pure_ (i := 6) (N := some 90) (v := undef) (a' := ?_) #[true, true, true, true, true, true, true, false, false, false, false, false, false, false, false, false] rfl rfl (by kernel_rfl) (fun _ _ _ h => h) (Or.inr ⟨by rfl, rfl⟩) ?_ ?_
          rotate_left
          · simp only [Act.put, sT, sZ, sS, i64_w, i32_w]
            rfl
          refine pure_ (i := 7) (N := some 91) (v := undef) (a' := ?_) #[true, true, true, true, true, true, true, true, false, false, false, false, false, false, false, false] rfl rfl (by kernel_rfl) (fun _ _ _ h => h) (Or.inr ⟨by rfl, rfl⟩) ?_ ?_
          rotate_left
          · simp only [Act.put, sT, sZ, sS, i64_w, i32_w]
            rfl
          refine pure_ (i := 8) (N := some 92) (v := undef) (a' := ?_) #[true, true, true, true, true, true, true, true, true, false, false, false, false, false, false, false] rfl rfl (by kernel_rfl) (fun _ _ _ h => h) (Or.inr ⟨by rfl, rfl⟩) ?_ ?_
          rotate_left
          · simp only [Act.put, sT, sZ, sS, i64_w, i32_w]
            rfl
          refine pure_ (i := 9) (N := some 93) (v := undef) (a' := ?_) #[true, true, true, true, true, true, true, true, true, true, false, false, false, false, false, false] rfl rfl (by kernel_rfl) (fun _ _ _ h => h) (Or.inr ⟨by rfl, rfl⟩) ?_ ?_
          rotate_left
          · simp only [Act.put, sT, sZ, sS, i64_w, i32_w]
            rfl
          refine pure_ (i := 10) (N := some 94) (v := undef) (a' := ?_) #[true, true, true, true, true, true, true, true, true, true, true, false, false, false, false, false] rfl rfl (by kernel_rfl) (fun _ _ _ h => h) (Or.inr ⟨by rfl, rfl⟩) ?_ ?_
          rotate_left
          · simp only [Act.put, sT, sZ, sS, i64_w, i32_w]
            rfl
          refine pure_ (i := 11) (N := some 95) (v := undef) (a' := ?_) #[true, true, true, true, true, true, true, true, true, true, true, true, false, false, false, false] rfl rfl (by kernel_rfl) (fun _ _ _ h => h) (Or.inr ⟨by rfl, rfl⟩) ?_ ?_
          rotate_left
          · simp only [Act.put, sT, sZ, sS, i64_w, i32_w]
            rfl
          refine pure_ (i := 12) (N := some 96) (v := undef) (a' := ?_) #[true, true, true, true, true, true, true, true, true, true, true, true, true, false, false, false] rfl rfl (by kernel_rfl) (fun _ _ _ h => h) (Or.inr ⟨by rfl, rfl⟩) ?_ ?_
          rotate_left
          · simp only [Act.put, sT, sZ, sS, i64_w, i32_w]
            rfl
          refine pure_ (i := 13) (N := some 97) (v := undef) (a' := ?_) #[true, true, true, true, true, true, true, true, true, true, true, true, true, true, false, false] rfl rfl (by kernel_rfl) (fun _ _ _ h => h) (Or.inr ⟨by rfl, rfl⟩) ?_ ?_
          rotate_left
          · simp only [Act.put, sT, sZ, sS, i64_w, i32_w]
            rfl
          refine pure_ (i := 14) (N := some 98) (v := undef) (a' := ?_) #[true, true, true, true, true, true, true, true, true, true, true, true, true, true, true, false] rfl rfl (by kernel_rfl) (fun _ _ _ h => h) (Or.inr ⟨by rfl, rfl⟩) ?_ ?_
          rotate_left
          · simp only [Act.put, sT, sZ, sS, i64_w, i32_w]
            rfl
          refine pure_ (i := 15) (N := some 99) (v := ?_) (a' := ?_) #[true, true, true, true, true, true, true, true, true, true, true, true, true, true, true, true] rfl rfl (by kernel_rfl) (fun _ _ _ h => h) (Or.inl ⟨by rfl, ?_⟩) ?_ ?_
          rotate_left
          · intro w'
            go_simp
            with_reducible rfl
          rotate_left
          · simp only [Act.put, sT, sZ, sS, i64_w, i32_w]
            rfl
          refine done_ (by kernel_rfl) ?_
          clear hHeld
          go_wp2
          go_meet
          case rel => exact ⟨rfl, HS, H4, HA, H5, BA⟩
        · obtain ⟨jj, hjj⟩ : ∃ j_ : Int, j_ = (acc.length : Int) - 1 := ⟨_, rfl⟩
          have UL : Aside0 (spec_l5Less.f (rd_T90 acc jj).f0 (rd_T90 acc jj).f1 (rd_T90 acc jj).f2 (rd_T90 acc jj).f3 y.f0 y.f1 y.f2 y.f3 = some bb) := ⟨by have e_ := U5.out; unfold spec_l5El.less at e_; rw [spec_l5El.last acc jj hjj h0] at e_; exact e_⟩
          have h0a : ((acc.length : Int) == 0) = false := beq_eq_false_iff_ne.mpr h0
          have hlen := HIB.out.2.2.1
          have hjw : IntKind.i64.wrap ((acc.length : Int) - 1) = jj := by subst hjj; rw [i64_w]; exact Go.IntWalk.wrap64_in _ (by omega)
          have p0 : 0 ≤ jj := by omega
          have q0 : jj < (acc.length : Int) := by omega
          obtain ⟨ad, e_, x0, x1, x2, x3⟩ := at_T90 (Kd.R_reads' H5.out).2.2 jj p0 q0
          cases e_
          replace p0 := eq_true p0
          replace q0 := eq_true q0
          clear h0 hjj hlen
          replace x0 : World.cell? (World.drew wc) (ad.add (jj.toNat * 4)) = some (.string (rd_T90 acc jj).f0) := x0
          replace x1 : World.cell? (World.drew wc) ⟨(ad.add (jj.toNat * 4)).block, (ad.add (jj.toNat * 4)).off + 1, none⟩ = some (.string (rd_T90 acc jj).f1) := x1
          replace x2 : World.cell? (World.drew wc) ⟨(ad.add (jj.toNat * 4)).block, (ad.add (jj.toNat * 4)).off + 2, none⟩ = some (.string (rd_T90 acc jj).f2) := x2
          replace x3 : World.cell? (World.drew wc) ⟨(ad.add (jj.toNat * 4)).block, (ad.add (jj.toNat * 4)).off + 3, none⟩ = some (.string (rd_T90 acc jj).f3) := x3
          obtain ⟨hS, hO⟩ := spec_l5El.St.below HS.out (below_drew (Below.refl _ _))
          replace H4 := Aside0.mk (spec_l5El.R_off H4.out hO (Nat.lt_succ_self _))
          replace HA := Aside0.mk (spec_l5El.R_off HA.out hO (Nat.lt_succ_self _))
          replace H5 := Aside0.mk (spec_l5El.R_off H5.out hO HN1.out)
          replace BA := Aside0.mk (spec_l5El.blk_off BA.out hO (Nat.lt_of_lt_of_le HN1.out HGA.out))
          replace HS := Aside0.mk hS
          clear hS hO
          refine start_ (n := 16) (S := fun w' => w'.cell? ⟨gN, 5, none⟩ = some (.slice (some ad) acc.length c5) ∧ w'.cell? ⟨gA, 0, none⟩ = some (.string y.f0) ∧ w'.cell? ⟨gA, 1, none⟩ = some (.string y.f1) ∧ w'.cell? ⟨gA, 2, none⟩ = some (.string y.f2) ∧ w'.cell? ⟨gA, 3, none⟩ = some (.string y.f3) ∧ w'.cell? (ad.add (jj.toNat * 4)) = some (.string (rd_T90 acc jj).f0) ∧ w'.cell? ⟨(ad.add (jj.toNat * 4)).block, (ad.add (jj.toNat * 4)).off + 1, none⟩ = some (.string (rd_T90 acc jj).f1) ∧ w'.cell? ⟨(ad.add (jj.toNat * 4)).block, (ad.add (jj.toNat * 4)).off + 2, none⟩ = some (.string (rd_T90 acc jj).f2) ∧ w'.cell? ⟨(ad.add (jj.toNat * 4)).block, (ad.add (jj.toNat * 4)).off + 3, none⟩ = some (.string (rd_T90 acc jj).f3)) (ds := []) #[false, false, false, false, false, false, false, false, false, false, false, false, false, false, false, false] (by kernel_rfl) rfl rfl ⟨((blk_cell (spec_l5El.St.C HS.out) 5).trans rfl), (blk_cell BA.out 0).trans rfl, (blk_cell BA.out 1).trans rfl, (blk_cell BA.out 2).trans rfl, (blk_cell BA.out 3).trans rfl, x0, x1, x2, x3⟩ (fun hHeld => ?_)
          generalize World.drew _ = w5 at HS H4 HA H5 BA x0 x1 x2 x3 hHeld ⊢
          refine pure_ (i := 0) (N := some 84) (v := ?_) (a' := ?_) #[true, false, false, false, false, false, false, false, false, false, false, false, false, false, false, false] rfl rfl (by kernel_rfl) (fun _ _ _ h => h) (Or.inl ⟨by rfl, ?_⟩) ?_ ?_
          rotate_left
          · intro w'
            go_simp
            with_reducible rfl
          rotate_left
          · simp only [Act.put, sT, sZ, sS, i64_w, i32_w]
            rfl
          refine take_ (i := 1) (N := some 85) (v := ?_) (a' := ?_) #[true, true, false, false, false, false, false, false, false, false, false, false, false, false, false, false] rfl rfl (by kernel_rfl) (fun _ _ _ h => h) (Or.inl ⟨by rfl, ?_⟩) hHeld ?_ ?_
          rotate_left
          · rintro w' ⟨q0_, q1_, q2_, q3_, q4_, q5_, q6_, q7_, q8_⟩
            go_simp
            with_reducible rfl
          rotate_left
          · simp only [Act.put, sT, sZ, sS, i64_w, i32_w]
            rfl
          refine pure_ (i := 2) (N := some 86) (v := ?_) (a' := ?_) #[true, true, true, false, false, false, false, false, false, false, false, false, false, false, false, false] rfl rfl (by kernel_rfl) (fun _ _ _ h => h) (Or.inl ⟨by rfl, ?_⟩) ?_ ?_
          rotate_left
          · intro w'
            go_simp
            with_reducible rfl
          rotate_left
          · simp only [Act.put, sT, sZ, sS, i64_w, i32_w]
            rfl
          refine pure_ (i := 3) (N := some 87) (v := ?_) (a' := ?_) #[true, true, true, true, false, false, false, false, false, false, false, false, false, false, false, false] rfl rfl (by kernel_rfl) (fun _ _ _ h => h) (Or.inl ⟨by rfl, ?_⟩) ?_ ?_
          rotate_left
          · intro w'
            go_simp
            with_reducible rfl
          rotate_left
          · simp only [Act.put, sT, sZ, sS, i64_w, i32_w]
            rfl
          refine pure_ (i := 4) (N := some 88) (v := ?_) (a' := ?_) #[true, true, true, true, true, false, false, false, false, false, false, false, false, false, false, false] rfl rfl (by kernel_rfl) (fun _ _ _ h => h) (Or.inl ⟨by rfl, ?_⟩) ?_ ?_
          rotate_left
          · intro w'
            go_simp
            with_reducible rfl
          rotate_left
          · simp only [Act.put, sT, sZ, sS, i64_w, i32_w]
            rfl
          refine pure_ (i := 5) (N := some 89) (v := ?_) (a' := ?_) #[true, true, true, true, true, true, false, false, false, false, false, false, false, false, false, false] rfl rfl (by kernel_rfl) (fun _ _ _ h => h) (Or.inl ⟨by rfl, ?_⟩) ?_ ?_
          rotate_left
          · intro w'
            go_simp
            with_reducible rfl
          rotate_left
          · simp only [Act.put, sT, sZ, sS, i64_w, i32_w]
            rfl
          refine take_ (i := 6) (N := some 90) (v := ?_) (a' := ?_) #[true, true, true, true, true, true, true, false, false, false, false, false, false, false, false, false] rfl rfl (by kernel_rfl) (fun _ _ _ h => h) (Or.inl ⟨by rfl, ?_⟩) hHeld ?_ ?_
          rotate_left
          · rintro w' ⟨q0_, q1_, q2_, q3_, q4_, q5_, q6_, q7_, q8_⟩
            go_simp
            with_reducible rfl
          rotate_left
          · simp only [Act.put, sT, sZ, sS, i64_w, i32_w]
            rfl
          refine pure_ (i := 7) (N := some 91) (v := ?_) (a' := ?_) #[true, true, true, true, true, true, true, true, false, false, false, false, false, false, false, false] rfl rfl (by kernel_rfl) (fun _ _ _ h => h) (Or.inl ⟨by rfl, ?_⟩) ?_ ?_
          rotate_left
          · intro w'
            go_simp
            with_reducible rfl
          rotate_left
          · simp only [Act.put, sT, sZ, sS, i64_w, i32_w]
            rfl
          refine take_ (i := 8) (N := some 92) (v := ?_) (a' := ?_) #[true, true, true, true, true, true, true, true, true, false, false, false, false, false, false, false] rfl rfl (by kernel_rfl) (fun _ _ _ h => h) (Or.inl ⟨by rfl, ?_⟩) hHeld ?_ ?_
          rotate_left
          · rintro w' ⟨q0_, q1_, q2_, q3_, q4_, q5_, q6_, q7_, q8_⟩
            go_simp
            with_reducible rfl
          rotate_left
          · simp only [Act.put, sT, sZ, sS, i64_w, i32_w]
            rfl
          refine pure_ (i := 9) (N := some 93) (v := ?_) (a' := ?_) #[true, true, true, true, true, true, true, true, true, true, false, false, false, false, false, false] rfl rfl (by kernel_rfl) (fun _ _ _ h => h) (Or.inl ⟨by rfl, ?_⟩) ?_ ?_
          rotate_left
          · intro w'
            go_simp
            with_reducible rfl
          rotate_left
          · simp only [Act.put, sT, sZ, sS, i64_w, i32_w]
            rfl
          refine pure_ (i := 10) (N := some 94) (v := ?_) (a' := ?_) #[true, true, true, true, true, true, true, true, true, true, true, false, false, false, false, false] rfl rfl (by kernel_rfl) (fun _ _ _ h => h) (Or.inl ⟨by rfl, ?_⟩) ?_ ?_
          rotate_left
          · intro w'
            go_simp
            with_reducible rfl
          rotate_left
          · simp only [Act.put, sT, sZ, sS, i64_w, i32_w]
            rfl
          refine pure_ (i := 11) (N := some 95) (v := ?_) (a' := ?_) #[true, true, true, true, true, true, true, true, true, true, true, true, false, false, false, false] rfl rfl (by kernel_rfl) (fun _ _ _ h => h) (Or.inl ⟨by rfl, ?_⟩) ?_ ?_
          rotate_left
          · intro w'
            go_simp
            with_reducible rfl
          rotate_left
          · simp only [Act.put, sT, sZ, sS, i64_w, i32_w]
            rfl
          refine take_ (i := 12) (N := some 96) (v := ?_) (a' := ?_) #[true, true, true, true, true, true, true, true, true, true, true, true, true, false, false, false] rfl rfl (by kernel_rfl) (fun _ _ _ h => h) (Or.inl ⟨by rfl, ?_⟩) hHeld ?_ ?_
          rotate_left
          · rintro w' ⟨q0_, q1_, q2_, q3_, q4_, q5_, q6_, q7_, q8_⟩
            go_simp
            with_reducible rfl
          rotate_left
          · simp only [Act.put, sT, sZ, sS, i64_w, i32_w]
            rfl
          refine take_ (i := 13) (N := some 97) (v := ?_) (a' := ?_) #[true, true, true, true, true, true, true, true, true, true, true, true, true, true, false, false] rfl rfl (by kernel_rfl) (fun _ _ _ h => h) (Or.inl ⟨by rfl, ?_⟩) hHeld ?_ ?_
          rotate_left
          · rintro w' ⟨q0_, q1_, q2_, q3_, q4_, q5_, q6_, q7_, q8_⟩
            go_simp
            with_reducible rfl
          rotate_left
          · simp only [Act.put, sT, sZ, sS, i64_w, i32_w]
            rfl
          refine one_ (i := 14) (N := some 98) #[true, true, true, true, true, true, true, true, true, true, true, true, true, true, true, false] rfl rfl (by kernel_rfl) (by decide) (fun K hK => ?_)
          refine goes_ Try.func81 (by kernel_rfl) rfl #[.agg #[.string (rd_T90 acc jj).f0, .string (rd_T90 acc jj).f1, .string (rd_T90 acc jj).f2, .string (rd_T90 acc jj).f3], .agg #[.string y.f0, .string y.f1, .string y.f2, .string y.f3]] (by rfl) rfl rfl mA ?_
          with_reducible refine (spec_l5Less.calls ((rd_T90 acc jj).f0) ((rd_T90 acc jj).f1) ((rd_T90 acc jj).f2) ((rd_T90 acc jj).f3) y.f0 y.f1 y.f2 y.f3 bb _ UL.out).mono ?_
          rintro e w7 ⟨rfl, hb⟩
          refine ⟨_, rfl, ?_⟩
          replace x0 := pw_cell_below hb x0
          replace x1 := pw_cell_below hb x1
          replace x2 := pw_cell_below hb x2
          replace x3 := pw_cell_below hb x3
          obtain ⟨hS, hO⟩ := spec_l5El.St.below HS.out hb
          replace H4 := Aside0.mk (spec_l5El.R_off H4.out hO (Nat.lt_succ_self _))
          replace HA := Aside0.mk (spec_l5El.R_off HA.out hO (Nat.lt_succ_self _))
          replace H5 := Aside0.mk (spec_l5El.R_off H5.out hO HN1.out)
          replace BA := Aside0.mk (spec_l5El.blk_off BA.out hO (Nat.lt_of_lt_of_le HN1.out HGA.out))
          replace HS := Aside0.mk hS
          clear hS hO hb
          refine hK.out _ _ ⟨((blk_cell (spec_l5El.St.C HS.out) 5).trans rfl), (blk_cell BA.out 0).trans rfl, (blk_cell BA.out 1).trans rfl, (blk_cell BA.out 2).trans rfl, (blk_cell BA.out 3).trans rfl, x0, x1, x2, x3⟩ (fun hHeld => ?_)
          clear hK K
          refine norm_ (a' := ?_) ?_ ?_
          rotate_left
          · show Act.put _ (some 98) _ = _
            simp only [Act.put, sT, sZ, sS, i64_w, i32_w]
            rfl
          refine pure_ (i := 15) (N := some 99) (v := ?_) (a' := ?_) #[true, true, true, true, true, true, true, true, true, true, true, true, true, true, true, true] rfl rfl (by kernel_rfl) (fun _ _ _ h => h) (Or.inl ⟨by rfl, ?_⟩) ?_ ?_
          rotate_left
          · intro w'
            go_simp
            with_reducible rfl
          rotate_left
          · simp only [Act.put, sT, sZ, sS, i64_w, i32_w]
            rfl
          refine done_ (by kernel_rfl) ?_
          clear hHeld
          clear x0 x1 x2 x3 p0 q0 hjw h0a UL
          go_wp2
          go_meet
          case rel => exact ⟨rfl, HS, H4, HA, H5, BA⟩
      case rest =>
      clear HS H4 HA H5 BA
      obtain ⟨rfl, HS, H4, HA, H5, BA⟩ := hcut
      cases bb with
      | false =>
        have h := UH.out
        rw [if_neg (by simp)] at h
        replace UH := Aside0.mk h
        clear h
        go_wp2
        go_roundg n
        case measure => have := HIB.out; omega
        case rel => exact ⟨n, i - 1, acc, o1, o2, .slice A5 acc.length c5, Nat.le_refl _, by have := HIB.out; rw [Go.IntWalk.wrap64_in _ (by omega)], UH, HS, H4, HA, ⟨Kd.R_mono H5.out (fun _ _ => trivial)⟩⟩
      | true =>
        have h := UH.out
        rw [if_pos rfl] at h
        obtain ⟨acc2, hacc⟩ : ∃ a_ : List S90, a_ = acc ++ [y] := ⟨_, rfl⟩
        rw [← hacc] at h
        have NA2 := Aside0.mk hacc
        replace UH := Aside0.mk h
        clear h hacc
        replace H5 := Aside0.mk (Kd.R_mono (ok' := fun _ => True) H5.out (fun _ _ => trivial))
        have z5 := (blk_cell (spec_l5El.St.C HS.out) 5).trans (show _ = some (.slice A5 acc.length c5) from rfl)
        have x0 := (blk_cell BA.out 0).trans (show _ = some (.string y.f0) from rfl)
        have x1 := (blk_cell BA.out 1).trans (show _ = some (.string y.f1) from rfl)
        have x2 := (blk_cell BA.out 2).trans (show _ = some (.string y.f2) from rfl)
        have x3 := (blk_cell BA.out 3).trans (show _ = some (.string y.f3) from rfl)
        go_wp2_with (first
            | ((with_reducible refine gate_builtin (b := .append) (xs := #[.tmp 101, .tmp 103]) rfl ?_); at_builtin; refine Kd.R_append k90 (w0 := _) N1 rfl (.tmp 101) (.tmp 103) 31 90 (.agg #[(.string ⟨#[]⟩), (.string ⟨#[]⟩), (.string ⟨#[]⟩), (.string ⟨#[]⟩)]) 64 rfl Try.underlying31 info90 rfl (by decide) (by omega) (.slice A5 acc.length c5) acc y [.string y.f0, .string y.f1, .string y.f2, .string y.f3] (fun _ => True) (fun _ => False) rfl rfl ?aP (fun _ h_ => h_.elim) (fun _ _ => trivial) H5.out (Below.refl _ _) (spec_l5El.St.Z HS.out) ?aL ?_; (case aP => exact k90_mkM _ _ _ y); (case aL => have := HIB.out; omega); intro v9 w9 ho hb hg hat; rw [← NA2.out] at ho; have hrow := Kd.R_base H5.out; replace H4 := Aside0.mk (Kd.R_grown H4.out hg (fun k_ h_ e_ => Nat.lt_irrefl _ (Nat.lt_of_lt_of_le h_ (hrow k_ e_.symm)))); replace HA := Aside0.mk (Kd.R_grown HA.out hg (fun k_ h_ e_ => Nat.lt_irrefl _ (Nat.lt_of_lt_of_le h_ (hrow k_ e_.symm)))); replace HS := Aside0.mk (spec_l5El.St.grown HS.out hg (fun k_ e_ => Nat.lt_of_lt_of_le HN1.out (hrow k_ e_))); replace H5 := Aside0.mk ho; clear ho hb hg hat hrow; clear z5 x0 x1 x2 x3; have z5 := (blk_cell (spec_l5El.St.C HS.out) 5).trans (show _ = some (.slice A5 acc.length c5) from rfl); have y5 := blk_frozen (spec_l5El.St.C HS.out) 5; obtain ⟨A9, c9, e_⟩ := Kd.R_slice H5.out; subst e_))
        go_roundg n
        case measure => have := HIB.out; omega
        obtain ⟨hS, hO⟩ := spec_l5El.St.set HS.out 5 (.slice A9 acc2.length c9) (vs' := #[.int .i64 1, .string pp, .string t, .string uu, .slice A4 d.length c4, (.slice A9 acc2.length c9), .slice none 0 0, .string (⟨#[]⟩ : ByteArray)]) rfl
        case rel => exact ⟨n, i - 1, acc2, o1, o2, _, Nat.le_refl _, by have := HIB.out; rw [Go.IntWalk.wrap64_in _ (by omega)], UH, ⟨hS⟩, ⟨spec_l5El.R_off H4.out hO (Nat.lt_succ_self _)⟩, ⟨spec_l5El.R_off HA.out hO (Nat.lt_succ_self _)⟩, ⟨spec_l5El.R_off H5.out hO HN1.out⟩⟩
    case neg =>
      rw [if_neg hi] at h
      simp only [Option.some.injEq, Prod.mk.injEq] at h
      obtain ⟨h1_, h2_, h3_⟩ := h
      subst h1_ h2_ h3_
      have hd : decide (0 < i) = false := decide_eq_false hi
      clear hi
      go_wp2_with (first
          | ((with_reducible refine gate_callee (f := 58) rfl ?_); refine goesL_ (some 107) rfl rfl Try.func58 (by kernel_rfl) rfl #[.pointer (some ⟨g, 0, none⟩), .int .i64 4] rfl mA ?_; (with_reducible refine (spec_l1Below.calls g s0 s1 s2 4 j _ _ w0 _ (spec_l5El.St.I HS.out) (spec_l5El.St.B HS.out) T11.out).mono ?_); rintro e w4 ⟨rfl, hI, hB, hk⟩; refine ⟨_, rfl, ?_⟩; obtain ⟨hS, hO⟩ := spec_l5El.St.call HS.out hI hB hk; replace H4 := Aside0.mk (spec_l5El.R_off H4.out hO (Nat.lt_succ_self _)); replace HA := Aside0.mk (spec_l5El.R_off HA.out hO (Nat.lt_succ_self _)); replace H5 := Aside0.mk (spec_l5El.R_off H5.out hO HN1.out); replace HS := Aside0.mk hS; clear hS hO hI hB hk))
      clear hd T11
      have hz := spec_l5El.St.renew HS.out
      have h4 := Kd.R_mono (ok' := fun k_ => k_ < _) (Kd.R_bound H4.out) (fun _ h_ => h_.2.2.1)
      have hA := Kd.R_mono (ok' := fun k_ => k_ < _) (Kd.R_bound HA.out) (fun _ h_ => h_.2.2.1)
      have h5 := Kd.R_mono (ok' := fun k_ => k_ < _) (Kd.R_bound H5.out) (fun _ h_ => h_.2.2.1)
      have hlt := spec_l5El.St.lt HS.out
      obtain ⟨N2, hN2, hz, h4, hA, h5⟩ : ∃ N2 : Nat, gN < N2 ∧ spec_l5El.St w0 w _ g m gR gN N2 s0 k1 k2 q #[.int .i64 1, .string pp, .string t, .string uu, .slice A4 d.length c4, (.slice A5 acc.length c5), .slice none 0 0, .string (⟨#[]⟩ : ByteArray)] ∧ Kd.R k88 88 _ (gN + 1) (fun k_ => k_ < N2) (.slice A4 d.length c4) d ∧ Kd.R k88 88 _ (gN + 1) (fun k_ => k_ < N2) (.slice AA all.length cA) all ∧ Kd.R k90 90 _ N1 (fun k_ => k_ < N2) (.slice A5 acc.length c5) acc := ⟨_, hlt, hz, h4, hA, h5⟩
      have HN2 := Aside0.mk hN2
      replace HS := Aside0.mk hz
      replace H4 := Aside0.mk h4
      replace HA := Aside0.mk hA
      replace H5 := Aside0.mk h5
      clear hN2 hz h4 hA h5 hlt
      go_loopg [16] k (fun gg s16 wr => ∃ (n : Nat) (i : Int) (bcc : List S34) (q1 s1 s2 : Int) (v6 : Value), n ≤ gg ∧ s16 = .int .i64 i ∧ Aside0 (spec_l5El.kids (fun y1 y2 y3 => spec_l5El.f k s0 y1 y2 all y3) s0 n i bcc q1 s1 s2 = some (ks, q2, t1, t2)) ∧ Aside0 (spec_l5El.St w0 w wr g m gR gN N2 s0 s1 s2 q1 #[.int .i64 1, .string pp, .string t, .string uu, .slice A4 d.length c4, (.slice A5 acc.length c5), v6, .string (⟨#[]⟩ : ByteArray)]) ∧ Aside0 (Kd.R k88 88 wr (gN + 1) (fun k_ => k_ < N2) (.slice A4 d.length c4) d) ∧ Aside0 (Kd.R k88 88 wr (gN + 1) (fun k_ => k_ < N2) (.slice AA all.length cA) all) ∧ Aside0 (Kd.R k90 90 wr N1 (fun k_ => k_ < N2) (.slice A5 acc.length c5) acc) ∧ Aside0 (Kd.R k34 34 wr N2 (fun _ => True) v6 bcc))
      case atStart => exact ⟨k, j, [], q, k1, k2, .slice none 0 0, Nat.le_refl _, rfl, T12, HS, H4, HA, H5, ⟨Kd.R_nil _ _ _ _ _⟩⟩
      case round =>
        clear T12 HS H4 HA H5
        obtain ⟨n, i, bcc, q1, s1, s2, v6, hgg, rfl, TH, HS, H4, HA, H5, H6⟩ := hrel
        obtain ⟨A6, c6, e_⟩ := Kd.R_slice H6.out
        subst e_
        cases n with
        | zero => exact absurd TH.out (by simp [spec_l5El.kids])
        | succ n =>
        have h := TH.out
        simp only [spec_l5El.kids] at h
        clear TH
        have zm := (blk_cell (spec_l5El.St.M HS.out) 0).trans (show _ = some (.int .i64 q1) from rfl)
        have ym := blk_frozen (spec_l5El.St.M HS.out) 0
        by_cases hi : i > 0 ∧ q1 > 0
        case neg =>
          rw [if_neg hi] at h
          simp only [Option.some.injEq, Prod.mk.injEq] at h
          obtain ⟨h1_, h2_, h3_, h4_⟩ := h
          subst h1_ h2_ h3_ h4_
          have hx : decide (0 < i) = false ∨ (decide (0 < i) = true ∧ decide (0 < q1) = false) := by
            by_cases h1_ : i > 0
            · exact .inr ⟨decide_eq_true h1_, decide_eq_false (fun h2_ => hi ⟨h1_, h2_⟩)⟩
            · exact .inl (decide_eq_false h1_)
          clear hi
          have z6 := (blk_cell (spec_l5El.St.C HS.out) 6).trans (show _ = some (.slice A6 bcc.length c6) from rfl)
          rcases hx with hd | ⟨hd, hd2⟩
          all_goals
            go_upto_region 38 with (first
              | ((with_reducible refine gate_callee (f := 18) rfl ?_); refine goesL_ (some 172) rfl rfl Try.func18 (by kernel_rfl) rfl #[.slice A6 bcc.length c6] rfl mA ?_; (with_reducible refine (spec_Merge.calls k A6 c6 bcc ms _ (Kd.R_reads' H6.out).2.2 (Kd.R_reads' H6.out).2.1 T13.out).mono ?_); rintro e w5 ⟨v8, rfl, h8, hb⟩; refine ⟨_, rfl, ?_⟩; have H8 := Aside0.mk (Kd.R_lower h8 (Nat.succ_le_of_lt (spec_l5El.St.lt HS.out))); clear h8 z6 zm ym; obtain ⟨hS, hO⟩ := spec_l5El.St.below HS.out hb; replace H4 := Aside0.mk (spec_l5El.R_off H4.out hO (Nat.lt_succ_self _)); replace HA := Aside0.mk (spec_l5El.R_off HA.out hO (Nat.lt_succ_self _)); replace H5 := Aside0.mk (spec_l5El.R_off H5.out hO HN1.out); replace H6 := Aside0.mk (spec_l5El.R_off H6.out hO HN2.out); replace HS := Aside0.mk hS; clear hS hO hb; obtain ⟨A8, c8, e_⟩ := Kd.R_slice H8.out; subst e_; have z6 := (blk_cell (spec_l5El.St.C HS.out) 6).trans (show _ = some (.slice A6 bcc.length c6) from rfl); have y6 := blk_frozen (spec_l5El.St.C HS.out) 6))
            try simp only [Act.put, sT, sZ, sS, i64_w, i32_w]
            clear z6 y6
            obtain ⟨hS, hO⟩ := spec_l5El.St.set HS.out 6 (.slice A8 ms.length c8) (vs' := #[.int .i64 1, .string pp, .string t, .string uu, .slice A4 d.length c4, .slice A5 acc.length c5, .slice A8 ms.length c8, .string (⟨#[]⟩ : ByteArray)]) rfl
            replace HS := Aside0.mk hS
            replace H4 := Aside0.mk (spec_l5El.R_off H4.out hO (Nat.lt_succ_self _))
            replace H5 := Aside0.mk (spec_l5El.R_off H5.out hO HN1.out)
            replace H8 := Aside0.mk (spec_l5El.R_off H8.out hO (Nat.lt_succ_self _))
            clear hS hO H6 HA
            generalize World.setCell _ _ _ = w8 at HS H4 H5 H8 ⊢
            obtain ⟨zk0, zk1, zk2, zk3, zk4, zk5, zk6, zk7⟩ := bc8 (spec_l5El.St.C HS.out)
            obtain ⟨zr0, zr1, zr2, zr3, zr4, zr5, zr6, zr7⟩ := bc8 (spec_l5El.St.R HS.out)
            obtain ⟨yr0, yr1, yr2, yr3, yr4, yr5, yr6, yr7⟩ := bf8 (spec_l5El.St.R HS.out)
            go_wp2
            refine bodyPost_ret (results_cell_row rfl _ _ gR 34 #[.int .i64 1, .string pp, .string t, .string uu, .slice A4 d.length c4, .slice A5 acc.length c5, .slice A8 ms.length c8, .string (⟨#[]⟩ : ByteArray)] (0, 0) _ rfl (put8 (spec_l5El.St.R HS.out)) Try.underlying34 rfl (by kernel_rfl)) rfl ?_
            have hF := spec_l5El.St.fin (u0 := .int .i64 1) (u1 := .string pp) (u2 := .string t) (u3 := .string uu) (u4 := .slice A4 d.length c4) (u5 := .slice A5 acc.length c5) (u6 := .slice A8 ms.length c8) (u7 := .string (⟨#[]⟩ : ByteArray)) HS.out
            exact ⟨_, _, _, rfl, spec_l5El.St.finR (u0 := .int .i64 1) (u1 := .string pp) (u2 := .string t) (u3 := .string uu) (u4 := .slice A4 d.length c4) (u5 := .slice A5 acc.length c5) (u6 := .slice A8 ms.length c8) (u7 := .string (⟨#[]⟩ : ByteArray)) HS.out H4.out (Nat.lt_succ_self _), spec_l5El.St.finR (u0 := .int .i64 1) (u1 := .string pp) (u2 := .string t) (u3 := .string uu) (u4 := .slice A4 d.length c4) (u5 := .slice A5 acc.length c5) (u6 := .slice A8 ms.length c8) (u7 := .string (⟨#[]⟩ : ByteArray)) HS.out H5.out HN1.out, spec_l5El.St.finR (u0 := .int .i64 1) (u1 := .string pp) (u2 := .string t) (u3 := .string uu) (u4 := .slice A4 d.length c4) (u5 := .slice A5 acc.length c5) (u6 := .slice A8 ms.length c8) (u7 := .string (⟨#[]⟩ : ByteArray)) HS.out H8.out (Nat.lt_succ_self _), hF.1, hF.2.1, hF.2.2.1, hF.2.2.2⟩
        case pos =>
          rw [if_pos hi] at h
          replace h := if_som h
          obtain ⟨⟨hl, hi2, hq2⟩, h⟩ := h
          replace h := Option.bind_eq_some_iff.1 h
          obtain ⟨⟨b, m1, m2⟩, h1_, h⟩ := h
          replace h := Option.bind_eq_some_iff.1 h
          obtain ⟨⟨y, q4, n1, n2⟩, h2_, h⟩ := h
          dsimp only at h2_ h
          obtain ⟨hi1, hq1⟩ := hi
          obtain ⟨q3, hq3⟩ : ∃ q3 : Int, q3 = q1 - 1 := ⟨_, rfl⟩
          rw [← hq3] at h2_
          have hqw : IntKind.i64.wrap (q1 - 1) = q3 := by subst hq3; rw [i64_w]; exact Go.IntWalk.wrap64_in _ (by omega)
          have hd : decide (0 < i) = true := decide_eq_true hi1
          have hd2 : decide (0 < q1) = true := decide_eq_true hq1
          have U1 := Aside0.mk h1_
          have UH := Aside0.mk h
          have HIB := Aside0.mk (And.intro hi1 (And.intro hi2 (And.intro hl hgg)))
          simp only [spec_l5El.kid] at h2_
          have U2 := Aside0.mk h2_
          clear h h1_ h2_ hi1 hi2 hq1 hq2 hl hgg hq3
          go_upto_region 30 with (first
              | ((with_reducible refine gate_callee (f := 58) rfl ?_); obtain ⟨hS, hO⟩ := spec_l5El.St.setm HS.out q3; replace H4 := Aside0.mk (spec_l5El.R_off H4.out hO (Nat.lt_succ_self _)); replace HA := Aside0.mk (spec_l5El.R_off HA.out hO (Nat.lt_succ_self _)); replace H5 := Aside0.mk (spec_l5El.R_off H5.out hO HN1.out); replace H6 := Aside0.mk (spec_l5El.R_off H6.out hO HN2.out); replace HS := Aside0.mk hS; clear hS hO; clear zm ym; refine goesL_ (some 125) rfl rfl Try.func58 (by kernel_rfl) rfl #[.pointer (some ⟨g, 0, none⟩), .int .i64 6] rfl mA ?_; (with_reducible refine (spec_l1Below.calls g s0 s1 s2 6 b _ _ w0 _ (spec_l5El.St.I HS.out) (spec_l5El.St.B HS.out) U1.out).mono ?_); rintro e w4 ⟨rfl, hI, hB, hk⟩; refine ⟨_, rfl, ?_⟩; obtain ⟨hS, hO⟩ := spec_l5El.St.call HS.out hI hB hk; replace H4 := Aside0.mk (spec_l5El.R_off H4.out hO (Nat.lt_succ_self _)); replace HA := Aside0.mk (spec_l5El.R_off HA.out hO (Nat.lt_succ_self _)); replace H5 := Aside0.mk (spec_l5El.R_off H5.out hO HN1.out); replace H6 := Aside0.mk (spec_l5El.R_off H6.out hO HN2.out); replace HS := Aside0.mk hS; clear hS hO hI hB hk))
          try simp only [Act.put, sT, sZ, sS, i64_w, i32_w]
          clear hd hd2 hqw U1
          have h2_ := U2.out
          clear U2
          by_cases hc : b = 0 ∨ b = 1
          · rcases hc with rfl | rfl
            all_goals
              rw [if_pos (by omega)] at h2_
              obtain ⟨⟨u7, o1, o2⟩, h3_, h2_⟩ := Option.bind_eq_some_iff.1 h2_
              simp only [Option.some.injEq, Prod.mk.injEq] at h2_
              obtain ⟨rfl, rfl, rfl, rfl⟩ := h2_
              obtain ⟨ys3, hys3⟩ : ∃ ys_ : List ByteArray, ys_ = ([(⟨#[120]⟩ : ByteArray), (⟨#[121]⟩ : ByteArray), (⟨#[32]⟩ : ByteArray), (⟨#[10, 32, 32]⟩ : ByteArray), (⟨#[49]⟩ : ByteArray), (⟨#[226, 130, 172, 60]⟩ : ByteArray)] : List ByteArray) := ⟨_, rfl⟩
              rw [← hys3] at h3_
              have Nys3 := Aside0.mk hys3
              have U3 := Aside0.mk h3_
              clear h3_ hys3
              have h := UH.out
              obtain ⟨bcc2, hb2⟩ : ∃ a_ : List S34, a_ = bcc ++ [(⟨2, (⟨#[]⟩ : ByteArray), (⟨#[]⟩ : ByteArray), (⟨#[]⟩ : ByteArray), [], [], [], u7⟩ : S34)] := ⟨_, rfl⟩
              rw [← hb2] at h
              have NB2 := Aside0.mk hb2
              replace UH := Aside0.mk h
              clear h hb2
              go_upto_region 32 with (fail)
              try simp only [Act.put, sT, sZ, sS, i64_w, i32_w]
              obtain ⟨hS, hO⟩ := spec_l5El.St.below HS.out (below_drew (Below.refl _ _))
              replace H4 := Aside0.mk (spec_l5El.R_off H4.out hO (Nat.lt_succ_self _))
              replace HA := Aside0.mk (spec_l5El.R_off HA.out hO (Nat.lt_succ_self _))
              replace H5 := Aside0.mk (spec_l5El.R_off H5.out hO HN1.out)
              replace H6 := Aside0.mk (spec_l5El.R_off H6.out hO HN2.out)
              replace HS := Aside0.mk hS
              clear hS hO
              refine start_ (n := 10) (S := fun w' => w'.cell? ⟨gN, 6, none⟩ = some (.slice A6 bcc.length c6)) (ds := [9]) #[false, false, false, false, false, false, false, false, false, false] (by kernel_rfl) rfl rfl ((blk_cell (spec_l5El.St.C HS.out) 6).trans rfl) (fun hHeld => ?_)
              generalize World.drew _ = w5 at HS H4 HA H5 H6 hHeld ⊢
              refine pure_ (i := 0) (N := some 139) (v := ?_) (a' := ?_) #[true, false, false, false, false, false, false, false, false, false] rfl rfl (by kernel_rfl) (fun _ _ _ h => h) (Or.inl ⟨by rfl, ?_⟩) ?_ ?_
              rotate_left
              · intro w'
                go_simp
                with_reducible rfl
              rotate_left
              · simp only [Act.put, sT, sZ, sS, i64_w, i32_w]
                rfl
              refine pure_ (i := 2) (N := some 141) (v := ?_) (a' := ?_) #[true, false, true, false, false, false, false, false, false, false] rfl rfl (by kernel_rfl) (fun _ _ _ h => h) (Or.inl ⟨by rfl, ?_⟩) ?_ ?_
              rotate_left
              · intro w'
                go_simp
                with_reducible rfl
              rotate_left
              · simp only [Act.put, sT, sZ, sS, i64_w, i32_w]
                rfl
              refine take_ (i := 1) (N := some 140) (v := ?_) (a' := ?_) #[true, true, true, false, false, false, false, false, false, false] rfl rfl (by kernel_rfl) (fun _ _ _ h => h) (Or.inl ⟨by rfl, ?_⟩) hHeld ?_ ?_
              rotate_left
              · rintro w' q0_
                go_simp
                with_reducible rfl
              rotate_left
              · simp only [Act.put, sT, sZ, sS, i64_w, i32_w]
                rfl
              refine one_ (i := 3) (N := some 142) #[true, true, true, true, false, false, false, false, false, false] rfl rfl (by kernel_rfl) (by decide) (fun K hK => ?_)
              refine Kd.R_lit_step Kd.string _ 9 (by rfl) (N := 142) rfl (xs := ([(⟨#[120]⟩ : ByteArray), (⟨#[121]⟩ : ByteArray), (⟨#[32]⟩ : ByteArray), (⟨#[10, 32, 32]⟩ : ByteArray), (⟨#[49]⟩ : ByteArray), (⟨#[226, 130, 172, 60]⟩ : ByteArray)] : List ByteArray)) (inner := [.string (⟨#[120]⟩ : ByteArray), .string (⟨#[121]⟩ : ByteArray), .string (⟨#[32]⟩ : ByteArray), .string (⟨#[10, 32, 32]⟩ : ByteArray), .string (⟨#[49]⟩ : ByteArray), .string (⟨#[226, 130, 172, 60]⟩ : ByteArray)]) (ok := fun _ => True) (okp := fun _ => True) ?hr ?hp (fun _ hk => hk) trivial (Below.refl _ _) (Nat.le_refl _) (by simp) ?_
              case hr => first | (go_simp; done) | (go_simp; rfl)
              case hp => exact (Reps.one (show Kd.M Kd.string _ _ _ (⟨#[120]⟩ : ByteArray) [.string (⟨#[120]⟩ : ByteArray)] from rfl) (Reps.one (show Kd.M Kd.string _ _ _ (⟨#[121]⟩ : ByteArray) [.string (⟨#[121]⟩ : ByteArray)] from rfl) (Reps.one (show Kd.M Kd.string _ _ _ (⟨#[32]⟩ : ByteArray) [.string (⟨#[32]⟩ : ByteArray)] from rfl) (Reps.one (show Kd.M Kd.string _ _ _ (⟨#[10, 32, 32]⟩ : ByteArray) [.string (⟨#[10, 32, 32]⟩ : ByteArray)] from rfl) (Reps.one (show Kd.M Kd.string _ _ _ (⟨#[49]⟩ : ByteArray) [.string (⟨#[49]⟩ : ByteArray)] from rfl) (Reps.one (show Kd.M Kd.string _ _ _ (⟨#[226, 130, 172, 60]⟩ : ByteArray) [.string (⟨#[226, 130, 172, 60]⟩ : ByteArray)] from rfl) (Reps.none _ _)))))))
              intro v3 w3 hs hb hg_ hnew_
              clear hg_ hnew_
              rw [← Nys3.out] at hs
              have HL := Aside0.mk hs
              clear hs
              obtain ⟨hS, hO⟩ := spec_l5El.St.below HS.out hb
              replace H4 := Aside0.mk (spec_l5El.R_off H4.out hO (Nat.lt_succ_self _))
              replace HA := Aside0.mk (spec_l5El.R_off HA.out hO (Nat.lt_succ_self _))
              replace H5 := Aside0.mk (spec_l5El.R_off H5.out hO HN1.out)
              replace H6 := Aside0.mk (spec_l5El.R_off H6.out hO HN2.out)
              replace HS := Aside0.mk hS
              clear hS hO hb
              obtain ⟨Ay, cy, e_⟩ := Kd.R_slice HL.out
              subst e_
              refine hK.out _ _ ((blk_cell (spec_l5El.St.C HS.out) 6).trans rfl) (fun hHeld => ?_)
              clear hK K
              refine norm_ (a' := ?_) ?_ ?_
              rotate_left
              · show Act.put _ (some 142) _ = _
                simp only [Act.put, sT, sZ, sS, i64_w, i32_w]
                rfl
              refine one_ (i := 4) (N := some 143) #[true, true, true, true, true, false, false, false, false, false] rfl rfl (by kernel_rfl) (by decide) (fun K hK => ?_)
              refine goes_ Try.func59 (by kernel_rfl) rfl #[.pointer (some ⟨g, 0, none⟩), .slice Ay ys3.length cy] (by rfl) rfl rfl mA ?_
              with_reducible refine (spec_l1Str.calls g s0 m1 m2 Ay cy ys3 u7 _ _ w0 _ (spec_l5El.St.I HS.out) (spec_l5El.St.B HS.out) (Kd.R_reads' HL.out).2.2 (Kd.R_reads' HL.out).2.1 (far_slice (IsS99.own_ne (spec_l5El.St.I HS.out) HL.out (by decide))) U3.out).mono ?_
              rintro e w4 ⟨rfl, hI, hB, hk⟩
              refine ⟨_, rfl, ?_⟩
              obtain ⟨hS, hO⟩ := spec_l5El.St.call HS.out hI hB hk
              replace H4 := Aside0.mk (spec_l5El.R_off H4.out hO (Nat.lt_succ_self _))
              replace HA := Aside0.mk (spec_l5El.R_off HA.out hO (Nat.lt_succ_self _))
              replace H5 := Aside0.mk (spec_l5El.R_off H5.out hO HN1.out)
              replace H6 := Aside0.mk (spec_l5El.R_off H6.out hO HN2.out)
              replace HS := Aside0.mk hS
              clear hS hO hI hB hk HL
              refine hK.out _ _ ((blk_cell (spec_l5El.St.C HS.out) 6).trans rfl) (fun hHeld => ?_)
              clear hK K
              refine norm_ (a' := ?_) ?_ ?_
              rotate_left
              · show Act.put _ (some 143) _ = _
                simp only [Act.put, sT, sZ, sS, i64_w, i32_w]
                rfl
              refine pure_ (i := 5) (N := some 144) (v := ?_) (a' := ?_) #[true, true, true, true, true, true, false, false, false, false] rfl rfl (by kernel_rfl) (fun _ _ _ h => h) (Or.inl ⟨by rfl, ?_⟩) ?_ ?_
              rotate_left
              · intro w'
                go_simp
                with_reducible rfl
              rotate_left
              · simp only [Act.put, sT, sZ, sS, i64_w, i32_w]
                rfl
              refine one_ (i := 6) (N := some 145) #[true, true, true, true, true, true, true, false, false, false] rfl rfl (by kernel_rfl) (by decide) (fun K hK => ?_)
              refine spec_l5El.box1 (by rfl) (cs := #[.int .i64 2, .string (⟨#[]⟩ : ByteArray), .string (⟨#[]⟩ : ByteArray), .string (⟨#[]⟩ : ByteArray), .slice none 0 0, .slice none 0 0, .slice none 0 0, .string u7]) (t := 34) ?_ ?_
              · first | (go_simp; done) | (go_simp; rfl)
              refine hK.out _ _ ((blk_cell (blk_alloc (spec_l5El.St.C HS.out) _) 6).trans rfl) (fun hHeld => ?_)
              clear hK K
              refine norm_ (a' := ?_) ?_ ?_
              rotate_left
              · show Act.put _ (some 145) _ = _
                simp only [Act.put, sT, sZ, sS, i64_w, i32_w]
                rfl
              refine one_ (i := 7) (N := some 146) #[true, true, true, true, true, true, true, true, false, false] rfl rfl (by kernel_rfl) (by decide) (fun K hK => ?_)
              refine Kd.R_append_step k34 (w0 := _) N2 (by rfl) (.tmp 140) (.tmp 145) 32 34 (.agg #[(.int .i64 0), (.string ⟨#[]⟩), (.string ⟨#[]⟩), (.string ⟨#[]⟩), (.slice none 0 0), (.slice none 0 0), (.slice none 0 0), (.string ⟨#[]⟩)]) 144 rfl Try.underlying32 info34 rfl (by decide) (by omega) (.slice A6 bcc.length c6) bcc (⟨2, (⟨#[]⟩ : ByteArray), (⟨#[]⟩ : ByteArray), (⟨#[]⟩ : ByteArray), [], [], [], u7⟩ : S34) [.int .i64 2, .string (⟨#[]⟩ : ByteArray), .string (⟨#[]⟩ : ByteArray), .string (⟨#[]⟩ : ByteArray), .slice none 0 0, .slice none 0 0, .slice none 0 0, .string u7] (fun _ => True) (fun _ => False) rfl rfl ?aP (fun _ h_ => h_.elim) (fun _ _ => trivial) H6.out (Below.refl _ _) (spec_l5El.St.Z HS.out) ?aL ?_
              case aP => exact k34_mkM _ _ _ (⟨2, (⟨#[]⟩ : ByteArray), (⟨#[]⟩ : ByteArray), (⟨#[]⟩ : ByteArray), [], [], [], u7⟩ : S34) (Kd.R_nil _ _ _ _ _) (Kd.R_nil _ _ _ _ _) (Kd.R_nil _ _ _ _ _)
              case aL => have := HIB.out; omega
              intro v9 w9 ho hb hg hat
              rw [← NB2.out] at ho
              have hrow := Kd.R_base H6.out
              replace H4 := Aside0.mk (Kd.R_grown H4.out hg (fun k_ h_ e_ => Nat.lt_irrefl _ (Nat.lt_of_lt_of_le h_ (hrow k_ e_.symm))))
              replace HA := Aside0.mk (Kd.R_grown HA.out hg (fun k_ h_ e_ => Nat.lt_irrefl _ (Nat.lt_of_lt_of_le h_ (hrow k_ e_.symm))))
              replace H5 := Aside0.mk (Kd.R_grown H5.out hg (fun k_ h_ e_ => Nat.lt_irrefl _ (Nat.lt_of_lt_of_le h_ (hrow k_ e_.symm))))
              replace HS := Aside0.mk (spec_l5El.St.grown HS.out hg (fun k_ e_ => Nat.lt_of_lt_of_le HN2.out (hrow k_ e_)))
              replace H6 := Aside0.mk ho
              clear ho hb hg hat hrow
              obtain ⟨A9, c9, e_⟩ := Kd.R_slice H6.out
              subst e_
              refine hK.out _ _ ((blk_cell (spec_l5El.St.C HS.out) 6).trans rfl) (fun hHeld => ?_)
              clear hK K
              refine norm_ (a' := ?_) ?_ ?_
              rotate_left
              · show Act.put _ (some 146) _ = _
                simp only [Act.put, sT, sZ, sS, i64_w, i32_w]
                rfl
              refine pure_ (i := 8) (N := some 147) (v := ?_) (a' := ?_) #[true, true, true, true, true, true, true, true, true, false] rfl rfl (by kernel_rfl) (fun _ _ _ h => h) (Or.inl ⟨by rfl, ?_⟩) ?_ ?_
              rotate_left
              · intro w'
                go_simp
                with_reducible rfl
              rotate_left
              · simp only [Act.put, sT, sZ, sS, i64_w, i32_w]
                rfl
              have z6 := (blk_cell (spec_l5El.St.C HS.out) 6).trans (show _ = some (.slice A6 bcc.length c6) from rfl)
              have y6 := blk_frozen (spec_l5El.St.C HS.out) 6
              refine last_ (i := 9) (N := none) #[true, true, true, true, true, true, true, true, true, true] rfl rfl (by kernel_rfl) (by decide) (fun K hK => ?_)
              refine skip_ (w1 := ?_) (by rfl) rfl ?_ ?_
              rotate_left
              · go_simp
                rfl
              refine hK.out _ _ ?_
              clear hK K
              refine done_ (by kernel_rfl) ?_
              clear hHeld
              go_wp2
              obtain ⟨hS, hO⟩ := spec_l5El.St.set HS.out 6 (.slice A9 bcc2.length c9) (vs' := #[.int .i64 1, .string pp, .string t, .string uu, .slice A4 d.length c4, (.slice A5 acc.length c5), (.slice A9 bcc2.length c9), .string (⟨#[]⟩ : ByteArray)]) rfl
              go_roundg n
              case measure => have := HIB.out; omega
              case rel => exact ⟨n, i - 1, bcc2, _, _, _, _, Nat.le_refl _, by have := HIB.out; rw [Go.IntWalk.wrap64_in _ (by omega)], UH, ⟨hS⟩, ⟨spec_l5El.R_off H4.out hO (Nat.lt_succ_self _)⟩, ⟨spec_l5El.R_off HA.out hO (Nat.lt_succ_self _)⟩, ⟨spec_l5El.R_off H5.out hO HN1.out⟩, ⟨spec_l5El.R_off H6.out hO HN2.out⟩⟩
          have f0 : (b == 0) = false := by simp only [beq_eq_false_iff_ne]; omega
          have f1 : (b == 1) = false := by simp only [beq_eq_false_iff_ne]; omega
          rw [if_neg hc] at h2_
          clear hc
          by_cases hc : b = 2
          · subst hc
            rw [if_pos rfl] at h2_
            obtain ⟨⟨u7, o1, o2⟩, h3_, h2_⟩ := Option.bind_eq_some_iff.1 h2_
            simp only [Option.some.injEq, Prod.mk.injEq] at h2_
            obtain ⟨rfl, rfl, rfl, rfl⟩ := h2_
            obtain ⟨ys3, hys3⟩ : ∃ ys_ : List ByteArray, ys_ = ([(⟨#[]⟩ : ByteArray), (⟨#[110]⟩ : ByteArray), (⟨#[32, 109, 32]⟩ : ByteArray)] : List ByteArray) := ⟨_, rfl⟩
            rw [← hys3] at h3_
            have Nys3 := Aside0.mk hys3
            have U3 := Aside0.mk h3_
            clear h3_ hys3
            have h := UH.out
            obtain ⟨bcc2, hb2⟩ : ∃ a_ : List S34, a_ = bcc ++ [(⟨3, (⟨#[]⟩ : ByteArray), (⟨#[]⟩ : ByteArray), (⟨#[]⟩ : ByteArray), [], [], [], u7⟩ : S34)] := ⟨_, rfl⟩
            rw [← hb2] at h
            have NB2 := Aside0.mk hb2
            replace UH := Aside0.mk h
            clear h hb2
            go_upto_region 34 with (fail)
            try simp only [Act.put, sT, sZ, sS, i64_w, i32_w]
            obtain ⟨hS, hO⟩ := spec_l5El.St.below HS.out (below_drew (Below.refl _ _))
            replace H4 := Aside0.mk (spec_l5El.R_off H4.out hO (Nat.lt_succ_self _))
            replace HA := Aside0.mk (spec_l5El.R_off HA.out hO (Nat.lt_succ_self _))
            replace H5 := Aside0.mk (spec_l5El.R_off H5.out hO HN1.out)
            replace H6 := Aside0.mk (spec_l5El.R_off H6.out hO HN2.out)
            replace HS := Aside0.mk hS
            clear hS hO
            refine start_ (n := 10) (S := fun w' => w'.cell? ⟨gN, 6, none⟩ = some (.slice A6 bcc.length c6)) (ds := [9]) #[false, false, false, false, false, false, false, false, false, false] (by kernel_rfl) rfl rfl ((blk_cell (spec_l5El.St.C HS.out) 6).trans rfl) (fun hHeld => ?_)
            generalize World.drew _ = w5 at HS H4 HA H5 H6 hHeld ⊢
            refine pure_ (i := 0) (N := some 150) (v := ?_) (a' := ?_) #[true, false, false, false, false, false, false, false, false, false] rfl rfl (by kernel_rfl) (fun _ _ _ h => h) (Or.inl ⟨by rfl, ?_⟩) ?_ ?_
            rotate_left
            · intro w'
              go_simp
              with_reducible rfl
            rotate_left
            · simp only [Act.put, sT, sZ, sS, i64_w, i32_w]
              rfl
            refine pure_ (i := 2) (N := some 152) (v := ?_) (a' := ?_) #[true, false, true, false, false, false, false, false, false, false] rfl rfl (by kernel_rfl) (fun _ _ _ h => h) (Or.inl ⟨by rfl, ?_⟩) ?_ ?_
            rotate_left
            · intro w'
              go_simp
              with_reducible rfl
            rotate_left
            · simp only [Act.put, sT, sZ, sS, i64_w, i32_w]
              rfl
            refine take_ (i := 1) (N := some 151) (v := ?_) (a' := ?_) #[true, true, true, false, false, false, false, false, false, false] rfl rfl (by kernel_rfl) (fun _ _ _ h => h) (Or.inl ⟨by rfl, ?_⟩) hHeld ?_ ?_
            rotate_left
            · rintro w' q0_
              go_simp
              with_reducible rfl
            rotate_left
            · simp only [Act.put, sT, sZ, sS, i64_w, i32_w]
              rfl
            refine one_ (i := 3) (N := some 153) #[true, true, true, true, false, false, false, false, false, false] rfl rfl (by kernel_rfl) (by decide) (fun K hK => ?_)
            refine Kd.R_lit_step Kd.string _ 9 (by rfl) (N := 153) rfl (xs := ([(⟨#[]⟩ : ByteArray), (⟨#[110]⟩ : ByteArray), (⟨#[32, 109, 32]⟩ : ByteArray)] : List ByteArray)) (inner := [.string (⟨#[]⟩ : ByteArray), .string (⟨#[110]⟩ : ByteArray), .string (⟨#[32, 109, 32]⟩ : ByteArray)]) (ok := fun _ => True) (okp := fun _ => True) ?hr ?hp (fun _ hk => hk) trivial (Below.refl _ _) (Nat.le_refl _) (by simp) ?_
            case hr => first | (go_simp; done) | (go_simp; rfl)
            case hp => exact (Reps.one (show Kd.M Kd.string _ _ _ (⟨#[]⟩ : ByteArray) [.string (⟨#[]⟩ : ByteArray)] from rfl) (Reps.one (show Kd.M Kd.string _ _ _ (⟨#[110]⟩ : ByteArray) [.string (⟨#[110]⟩ : ByteArray)] from rfl) (Reps.one (show Kd.M Kd.string _ _ _ (⟨#[32, 109, 32]⟩ : ByteArray) [.string (⟨#[32, 109, 32]⟩ : ByteArray)] from rfl) (Reps.none _ _))))
            intro v3 w3 hs hb hg_ hnew_
            clear hg_ hnew_
            rw [← Nys3.out] at hs
            have HL := Aside0.mk hs
            clear hs
            obtain ⟨hS, hO⟩ := spec_l5El.St.below HS.out hb
            replace H4 := Aside0.mk (spec_l5El.R_off H4.out hO (Nat.lt_succ_self _))
            replace HA := Aside0.mk (spec_l5El.R_off HA.out hO (Nat.lt_succ_self _))
            replace H5 := Aside0.mk (spec_l5El.R_off H5.out hO HN1.out)
            replace H6 := Aside0.mk (spec_l5El.R_off H6.out hO HN2.out)
            replace HS := Aside0.mk hS
            clear hS hO hb
            obtain ⟨Ay, cy, e_⟩ := Kd.R_slice HL.out
            subst e_
            refine hK.out _ _ ((blk_cell (spec_l5El.St.C HS.out) 6).trans rfl) (fun hHeld => ?_)
            clear hK K
            refine norm_ (a' := ?_) ?_ ?_
            rotate_left
            · show Act.put _ (some 153) _ = _
              simp only [Act.put, sT, sZ, sS, i64_w, i32_w]
              rfl
            refine one_ (i := 4) (N := some 154) #[true, true, true, true, true, false, false, false, false, false] rfl rfl (by kernel_rfl) (by decide) (fun K hK => ?_)
            refine goes_ Try.func59 (by kernel_rfl) rfl #[.pointer (some ⟨g, 0, none⟩), .slice Ay ys3.length cy] (by rfl) rfl rfl mA ?_
            with_reducible refine (spec_l1Str.calls g s0 m1 m2 Ay cy ys3 u7 _ _ w0 _ (spec_l5El.St.I HS.out) (spec_l5El.St.B HS.out) (Kd.R_reads' HL.out).2.2 (Kd.R_reads' HL.out).2.1 (far_slice (IsS99.own_ne (spec_l5El.St.I HS.out) HL.out (by decide))) U3.out).mono ?_
            rintro e w4 ⟨rfl, hI, hB, hk⟩
            refine ⟨_, rfl, ?_⟩
            obtain ⟨hS, hO⟩ := spec_l5El.St.call HS.out hI hB hk
            replace H4 := Aside0.mk (spec_l5El.R_off H4.out hO (Nat.lt_succ_self _))
            replace HA := Aside0.mk (spec_l5El.R_off HA.out hO (Nat.lt_succ_self _))
            replace H5 := Aside0.mk (spec_l5El.R_off H5.out hO HN1.out)
            replace H6 := Aside0.mk (spec_l5El.R_off H6.out hO HN2.out)
            replace HS := Aside0.mk hS
            clear hS hO hI hB hk HL
            refine hK.out _ _ ((blk_cell (spec_l5El.St.C HS.out) 6).trans rfl) (fun hHeld => ?_)
            clear hK K
            refine norm_ (a' := ?_) ?_ ?_
            rotate_left
            · show Act.put _ (some 154) _ = _
              simp only [Act.put, sT, sZ, sS, i64_w, i32_w]
              rfl
            refine pure_ (i := 5) (N := some 155) (v := ?_) (a' := ?_) #[true, true, true, true, true, true, false, false, false, false] rfl rfl (by kernel_rfl) (fun _ _ _ h => h) (Or.inl ⟨by rfl, ?_⟩) ?_ ?_
            rotate_left
            · intro w'
              go_simp
              with_reducible rfl
            rotate_left
            · simp only [Act.put, sT, sZ, sS, i64_w, i32_w]
              rfl
            refine one_ (i := 6) (N := some 156) #[true, true, true, true, true, true, true, false, false, false] rfl rfl (by kernel_rfl) (by decide) (fun K hK => ?_)
            refine spec_l5El.box1 (by rfl) (cs := #[.int .i64 3, .string (⟨#[]⟩ : ByteArray), .string (⟨#[]⟩ : ByteArray), .string (⟨#[]⟩ : ByteArray), .slice none 0 0, .slice none 0 0, .slice none 0 0, .string u7]) (t := 34) ?_ ?_
            · first | (go_simp; done) | (go_simp; rfl)
            refine hK.out _ _ ((blk_cell (blk_alloc (spec_l5El.St.C HS.out) _) 6).trans rfl) (fun hHeld => ?_)
            clear hK K
            refine norm_ (a' := ?_) ?_ ?_
            rotate_left
            · show Act.put _ (some 156) _ = _
              simp only [Act.put, sT, sZ, sS, i64_w, i32_w]
              rfl
            refine one_ (i := 7) (N := some 157) #[true, true, true, true, true, true, true, true, false, false] rfl rfl (by kernel_rfl) (by decide) (fun K hK => ?_)
            refine Kd.R_append_step k34 (w0 := _) N2 (by rfl) (.tmp 151) (.tmp 156) 32 34 (.agg #[(.int .i64 0), (.string ⟨#[]⟩), (.string ⟨#[]⟩), (.string ⟨#[]⟩), (.slice none 0 0), (.slice none 0 0), (.slice none 0 0), (.string ⟨#[]⟩)]) 144 rfl Try.underlying32 info34 rfl (by decide) (by omega) (.slice A6 bcc.length c6) bcc (⟨3, (⟨#[]⟩ : ByteArray), (⟨#[]⟩ : ByteArray), (⟨#[]⟩ : ByteArray), [], [], [], u7⟩ : S34) [.int .i64 3, .string (⟨#[]⟩ : ByteArray), .string (⟨#[]⟩ : ByteArray), .string (⟨#[]⟩ : ByteArray), .slice none 0 0, .slice none 0 0, .slice none 0 0, .string u7] (fun _ => True) (fun _ => False) rfl rfl ?aP (fun _ h_ => h_.elim) (fun _ _ => trivial) H6.out (Below.refl _ _) (spec_l5El.St.Z HS.out) ?aL ?_
            case aP => exact k34_mkM _ _ _ (⟨3, (⟨#[]⟩ : ByteArray), (⟨#[]⟩ : ByteArray), (⟨#[]⟩ : ByteArray), [], [], [], u7⟩ : S34) (Kd.R_nil _ _ _ _ _) (Kd.R_nil _ _ _ _ _) (Kd.R_nil _ _ _ _ _)
            case aL => have := HIB.out; omega
            intro v9 w9 ho hb hg hat
            rw [← NB2.out] at ho
            have hrow := Kd.R_base H6.out
            replace H4 := Aside0.mk (Kd.R_grown H4.out hg (fun k_ h_ e_ => Nat.lt_irrefl _ (Nat.lt_of_lt_of_le h_ (hrow k_ e_.symm))))
            replace HA := Aside0.mk (Kd.R_grown HA.out hg (fun k_ h_ e_ => Nat.lt_irrefl _ (Nat.lt_of_lt_of_le h_ (hrow k_ e_.symm))))
            replace H5 := Aside0.mk (Kd.R_grown H5.out hg (fun k_ h_ e_ => Nat.lt_irrefl _ (Nat.lt_of_lt_of_le h_ (hrow k_ e_.symm))))
            replace HS := Aside0.mk (spec_l5El.St.grown HS.out hg (fun k_ e_ => Nat.lt_of_lt_of_le HN2.out (hrow k_ e_)))
            replace H6 := Aside0.mk ho
            clear ho hb hg hat hrow
            obtain ⟨A9, c9, e_⟩ := Kd.R_slice H6.out
            subst e_
            refine hK.out _ _ ((blk_cell (spec_l5El.St.C HS.out) 6).trans rfl) (fun hHeld => ?_)
            clear hK K
            refine norm_ (a' := ?_) ?_ ?_
            rotate_left
            · show Act.put _ (some 157) _ = _
              simp only [Act.put, sT, sZ, sS, i64_w, i32_w]
              rfl
            refine pure_ (i := 8) (N := some 158) (v := ?_) (a' := ?_) #[true, true, true, true, true, true, true, true, true, false] rfl rfl (by kernel_rfl) (fun _ _ _ h => h) (Or.inl ⟨by rfl, ?_⟩) ?_ ?_
            rotate_left
            · intro w'
              go_simp
              with_reducible rfl
            rotate_left
            · simp only [Act.put, sT, sZ, sS, i64_w, i32_w]
              rfl
            have z6 := (blk_cell (spec_l5El.St.C HS.out) 6).trans (show _ = some (.slice A6 bcc.length c6) from rfl)
            have y6 := blk_frozen (spec_l5El.St.C HS.out) 6
            refine last_ (i := 9) (N := none) #[true, true, true, true, true, true, true, true, true, true] rfl rfl (by kernel_rfl) (by decide) (fun K hK => ?_)
            refine skip_ (w1 := ?_) (by rfl) rfl ?_ ?_
            rotate_left
            · go_simp
              rfl
            refine hK.out _ _ ?_
            clear hK K
            refine done_ (by kernel_rfl) ?_
            clear hHeld
            go_wp2
            obtain ⟨hS, hO⟩ := spec_l5El.St.set HS.out 6 (.slice A9 bcc2.length c9) (vs' := #[.int .i64 1, .string pp, .string t, .string uu, .slice A4 d.length c4, (.slice A5 acc.length c5), (.slice A9 bcc2.length c9), .string (⟨#[]⟩ : ByteArray)]) rfl
            go_roundg n
            case measure => have := HIB.out; omega
            case rel => exact ⟨n, i - 1, bcc2, _, _, _, _, Nat.le_refl _, by have := HIB.out; rw [Go.IntWalk.wrap64_in _ (by omega)], UH, ⟨hS⟩, ⟨spec_l5El.R_off H4.out hO (Nat.lt_succ_self _)⟩, ⟨spec_l5El.R_off HA.out hO (Nat.lt_succ_self _)⟩, ⟨spec_l5El.R_off H5.out hO HN1.out⟩, ⟨spec_l5El.R_off H6.out hO HN2.out⟩⟩
          have f2 : (b == 2) = false := by simp only [beq_eq_false_iff_ne]; omega
          rw [if_neg hc] at h2_
          clear hc
          by_cases hc : b = 3
          · subst hc
            rw [if_pos rfl] at h2_
            obtain ⟨⟨u7, o1, o2⟩, h3_, h2_⟩ := Option.bind_eq_some_iff.1 h2_
            simp only [Option.some.injEq, Prod.mk.injEq] at h2_
            obtain ⟨rfl, rfl, rfl, rfl⟩ := h2_
            obtain ⟨ys3, hys3⟩ : ∃ ys_ : List ByteArray, ys_ = ([(⟨#[]⟩ : ByteArray), (⟨#[103, 111]⟩ : ByteArray)] : List ByteArray) := ⟨_, rfl⟩
            rw [← hys3] at h3_
            have Nys3 := Aside0.mk hys3
            have U3 := Aside0.mk h3_
            clear h3_ hys3
            have h := UH.out
            obtain ⟨bcc2, hb2⟩ : ∃ a_ : List S34, a_ = bcc ++ [(⟨4, (⟨#[]⟩ : ByteArray), (⟨#[116]⟩ : ByteArray), (⟨#[]⟩ : ByteArray), [], [], [], u7⟩ : S34)] := ⟨_, rfl⟩
            rw [← hb2] at h
            have NB2 := Aside0.mk hb2
            replace UH := Aside0.mk h
            clear h hb2
            go_upto_region 36 with (fail)
            try simp only [Act.put, sT, sZ, sS, i64_w, i32_w]
            obtain ⟨hS, hO⟩ := spec_l5El.St.below HS.out (below_drew (Below.refl _ _))
            replace H4 := Aside0.mk (spec_l5El.R_off H4.out hO (Nat.lt_succ_self _))
            replace HA := Aside0.mk (spec_l5El.R_off HA.out hO (Nat.lt_succ_self _))
            replace H5 := Aside0.mk (spec_l5El.R_off H5.out hO HN1.out)
            replace H6 := Aside0.mk (spec_l5El.R_off H6.out hO HN2.out)
            replace HS := Aside0.mk hS
            clear hS hO
            refine start_ (n := 10) (S := fun w' => w'.cell? ⟨gN, 6, none⟩ = some (.slice A6 bcc.length c6)) (ds := [9]) #[false, false, false, false, false, false, false, false, false, false] (by kernel_rfl) rfl rfl ((blk_cell (spec_l5El.St.C HS.out) 6).trans rfl) (fun hHeld => ?_)
            generalize World.drew _ = w5 at HS H4 HA H5 H6 hHeld ⊢
            refine pure_ (i := 0) (N := some 161) (v := ?_) (a' := ?_) #[true, false, false, false, false, false, false, false, false, false] rfl rfl (by kernel_rfl) (fun _ _ _ h => h) (Or.inl ⟨by rfl, ?_⟩) ?_ ?_
            rotate_left
            · intro w'
              go_simp
              with_reducible rfl
            rotate_left
            · simp only [Act.put, sT, sZ, sS, i64_w, i32_w]
              rfl
            refine pure_ (i := 2) (N := some 163) (v := ?_) (a' := ?_) #[true, false, true, false, false, false, false, false, false, false] rfl rfl (by kernel_rfl) (fun _ _ _ h => h) (Or.inl ⟨by rfl, ?_⟩) ?_ ?_
            rotate_left
            · intro w'
              go_simp
              with_reducible rfl
            rotate_left
            · simp only [Act.put, sT, sZ, sS, i64_w, i32_w]
              rfl
            refine take_ (i := 1) (N := some 162) (v := ?_) (a' := ?_) #[true, true, true, false, false, false, false, false, false, false] rfl rfl (by kernel_rfl) (fun _ _ _ h => h) (Or.inl ⟨by rfl, ?_⟩) hHeld ?_ ?_
            rotate_left
            · rintro w' q0_
              go_simp
              with_reducible rfl
            rotate_left
            · simp only [Act.put, sT, sZ, sS, i64_w, i32_w]
              rfl
            refine one_ (i := 3) (N := some 164) #[true, true, true, true, false, false, false, false, false, false] rfl rfl (by kernel_rfl) (by decide) (fun K hK => ?_)
            refine Kd.R_lit_step Kd.string _ 9 (by rfl) (N := 164) rfl (xs := ([(⟨#[]⟩ : ByteArray), (⟨#[103, 111]⟩ : ByteArray)] : List ByteArray)) (inner := [.string (⟨#[]⟩ : ByteArray), .string (⟨#[103, 111]⟩ : ByteArray)]) (ok := fun _ => True) (okp := fun _ => True) ?hr ?hp (fun _ hk => hk) trivial (Below.refl _ _) (Nat.le_refl _) (by simp) ?_
            case hr => first | (go_simp; done) | (go_simp; rfl)
            case hp => exact (Reps.one (show Kd.M Kd.string _ _ _ (⟨#[]⟩ : ByteArray) [.string (⟨#[]⟩ : ByteArray)] from rfl) (Reps.one (show Kd.M Kd.string _ _ _ (⟨#[103, 111]⟩ : ByteArray) [.string (⟨#[103, 111]⟩ : ByteArray)] from rfl) (Reps.none _ _)))
            intro v3 w3 hs hb hg_ hnew_
            clear hg_ hnew_
            rw [← Nys3.out] at hs
            have HL := Aside0.mk hs
            clear hs
            obtain ⟨hS, hO⟩ := spec_l5El.St.below HS.out hb
            replace H4 := Aside0.mk (spec_l5El.R_off H4.out hO (Nat.lt_succ_self _))
            replace HA := Aside0.mk (spec_l5El.R_off HA.out hO (Nat.lt_succ_self _))
            replace H5 := Aside0.mk (spec_l5El.R_off H5.out hO HN1.out)
            replace H6 := Aside0.mk (spec_l5El.R_off H6.out hO HN2.out)
            replace HS := Aside0.mk hS
            clear hS hO hb
            obtain ⟨Ay, cy, e_⟩ := Kd.R_slice HL.out
            subst e_
            refine hK.out _ _ ((blk_cell (spec_l5El.St.C HS.out) 6).trans rfl) (fun hHeld => ?_)
            clear hK K
            refine norm_ (a' := ?_) ?_ ?_
            rotate_left
            · show Act.put _ (some 164) _ = _
              simp only [Act.put, sT, sZ, sS, i64_w, i32_w]
              rfl
            refine one_ (i := 4) (N := some 165) #[true, true, true, true, true, false, false, false, false, false] rfl rfl (by kernel_rfl) (by decide) (fun K hK => ?_)
            refine goes_ Try.func59 (by kernel_rfl) rfl #[.pointer (some ⟨g, 0, none⟩), .slice Ay ys3.length cy] (by rfl) rfl rfl mA ?_
            with_reducible refine (spec_l1Str.calls g s0 m1 m2 Ay cy ys3 u7 _ _ w0 _ (spec_l5El.St.I HS.out) (spec_l5El.St.B HS.out) (Kd.R_reads' HL.out).2.2 (Kd.R_reads' HL.out).2.1 (far_slice (IsS99.own_ne (spec_l5El.St.I HS.out) HL.out (by decide))) U3.out).mono ?_
            rintro e w4 ⟨rfl, hI, hB, hk⟩
            refine ⟨_, rfl, ?_⟩
            obtain ⟨hS, hO⟩ := spec_l5El.St.call HS.out hI hB hk
            replace H4 := Aside0.mk (spec_l5El.R_off H4.out hO (Nat.lt_succ_self _))
            replace HA := Aside0.mk (spec_l5El.R_off HA.out hO (Nat.lt_succ_self _))
            replace H5 := Aside0.mk (spec_l5El.R_off H5.out hO HN1.out)
            replace H6 := Aside0.mk (spec_l5El.R_off H6.out hO HN2.out)
            replace HS := Aside0.mk hS
            clear hS hO hI hB hk HL
            refine hK.out _ _ ((blk_cell (spec_l5El.St.C HS.out) 6).trans rfl) (fun hHeld => ?_)
            clear hK K
            refine norm_ (a' := ?_) ?_ ?_
            rotate_left
            · show Act.put _ (some 165) _ = _
              simp only [Act.put, sT, sZ, sS, i64_w, i32_w]
              rfl
            refine pure_ (i := 5) (N := some 166) (v := ?_) (a' := ?_) #[true, true, true, true, true, true, false, false, false, false] rfl rfl (by kernel_rfl) (fun _ _ _ h => h) (Or.inl ⟨by rfl, ?_⟩) ?_ ?_
            rotate_left
            · intro w'
              go_simp
              with_reducible rfl
            rotate_left
            · simp only [Act.put, sT, sZ, sS, i64_w, i32_w]
              rfl
            refine one_ (i := 6) (N := some 167) #[true, true, true, true, true, true, true, false, false, false] rfl rfl (by kernel_rfl) (by decide) (fun K hK => ?_)
            refine spec_l5El.box1 (by rfl) (cs := #[.int .i64 4, .string (⟨#[]⟩ : ByteArray), .string (⟨#[116]⟩ : ByteArray), .string (⟨#[]⟩ : ByteArray), .slice none 0 0, .slice none 0 0, .slice none 0 0, .string u7]) (t := 34) ?_ ?_
            · first | (go_simp; done) | (go_simp; rfl)
            refine hK.out _ _ ((blk_cell (blk_alloc (spec_l5El.St.C HS.out) _) 6).trans rfl) (fun hHeld => ?_)
            clear hK K
            refine norm_ (a' := ?_) ?_ ?_
            rotate_left
            · show Act.put _ (some 167) _ = _
              simp only [Act.put, sT, sZ, sS, i64_w, i32_w]
              rfl
            refine one_ (i := 7) (N := some 168) #[true, true, true, true, true, true, true, true, false, false] rfl rfl (by kernel_rfl) (by decide) (fun K hK => ?_)
            refine Kd.R_append_step k34 (w0 := _) N2 (by rfl) (.tmp 162) (.tmp 167) 32 34 (.agg #[(.int .i64 0), (.string ⟨#[]⟩), (.string ⟨#[]⟩), (.string ⟨#[]⟩), (.slice none 0 0), (.slice none 0 0), (.slice none 0 0), (.string ⟨#[]⟩)]) 144 rfl Try.underlying32 info34 rfl (by decide) (by omega) (.slice A6 bcc.length c6) bcc (⟨4, (⟨#[]⟩ : ByteArray), (⟨#[116]⟩ : ByteArray), (⟨#[]⟩ : ByteArray), [], [], [], u7⟩ : S34) [.int .i64 4, .string (⟨#[]⟩ : ByteArray), .string (⟨#[116]⟩ : ByteArray), .string (⟨#[]⟩ : ByteArray), .slice none 0 0, .slice none 0 0, .slice none 0 0, .string u7] (fun _ => True) (fun _ => False) rfl rfl ?aP (fun _ h_ => h_.elim) (fun _ _ => trivial) H6.out (Below.refl _ _) (spec_l5El.St.Z HS.out) ?aL ?_
            case aP => exact k34_mkM _ _ _ (⟨4, (⟨#[]⟩ : ByteArray), (⟨#[116]⟩ : ByteArray), (⟨#[]⟩ : ByteArray), [], [], [], u7⟩ : S34) (Kd.R_nil _ _ _ _ _) (Kd.R_nil _ _ _ _ _) (Kd.R_nil _ _ _ _ _)
            case aL => have := HIB.out; omega
            intro v9 w9 ho hb hg hat
            rw [← NB2.out] at ho
            have hrow := Kd.R_base H6.out
            replace H4 := Aside0.mk (Kd.R_grown H4.out hg (fun k_ h_ e_ => Nat.lt_irrefl _ (Nat.lt_of_lt_of_le h_ (hrow k_ e_.symm))))
            replace HA := Aside0.mk (Kd.R_grown HA.out hg (fun k_ h_ e_ => Nat.lt_irrefl _ (Nat.lt_of_lt_of_le h_ (hrow k_ e_.symm))))
            replace H5 := Aside0.mk (Kd.R_grown H5.out hg (fun k_ h_ e_ => Nat.lt_irrefl _ (Nat.lt_of_lt_of_le h_ (hrow k_ e_.symm))))
            replace HS := Aside0.mk (spec_l5El.St.grown HS.out hg (fun k_ e_ => Nat.lt_of_lt_of_le HN2.out (hrow k_ e_)))
            replace H6 := Aside0.mk ho
            clear ho hb hg hat hrow
            obtain ⟨A9, c9, e_⟩ := Kd.R_slice H6.out
            subst e_
            refine hK.out _ _ ((blk_cell (spec_l5El.St.C HS.out) 6).trans rfl) (fun hHeld => ?_)
            clear hK K
            refine norm_ (a' := ?_) ?_ ?_
            rotate_left
            · show Act.put _ (some 168) _ = _
              simp only [Act.put, sT, sZ, sS, i64_w, i32_w]
              rfl
            refine pure_ (i := 8) (N := some 169) (v := ?_) (a' := ?_) #[true, true, true, true, true, true, true, true, true, false] rfl rfl (by kernel_rfl) (fun _ _ _ h => h) (Or.inl ⟨by rfl, ?_⟩) ?_ ?_
            rotate_left
            · intro w'
              go_simp
              with_reducible rfl
            rotate_left
            · simp only [Act.put, sT, sZ, sS, i64_w, i32_w]
              rfl
            have z6 := (blk_cell (spec_l5El.St.C HS.out) 6).trans (show _ = some (.slice A6 bcc.length c6) from rfl)
            have y6 := blk_frozen (spec_l5El.St.C HS.out) 6
            refine last_ (i := 9) (N := none) #[true, true, true, true, true, true, true, true, true, true] rfl rfl (by kernel_rfl) (by decide) (fun K hK => ?_)
            refine skip_ (w1 := ?_) (by rfl) rfl ?_ ?_
            rotate_left
            · go_simp
              rfl
            refine hK.out _ _ ?_
            clear hK K
            refine done_ (by kernel_rfl) ?_
            clear hHeld
            go_wp2
            obtain ⟨hS, hO⟩ := spec_l5El.St.set HS.out 6 (.slice A9 bcc2.length c9) (vs' := #[.int .i64 1, .string pp, .string t, .string uu, .slice A4 d.length c4, (.slice A5 acc.length c5), (.slice A9 bcc2.length c9), .string (⟨#[]⟩ : ByteArray)]) rfl
            go_roundg n
            case measure => have := HIB.out; omega
            case rel => exact ⟨n, i - 1, bcc2, _, _, _, _, Nat.le_refl _, by have := HIB.out; rw [Go.IntWalk.wrap64_in _ (by omega)], UH, ⟨hS⟩, ⟨spec_l5El.R_off H4.out hO (Nat.lt_succ_self _)⟩, ⟨spec_l5El.R_off HA.out hO (Nat.lt_succ_self _)⟩, ⟨spec_l5El.R_off H5.out hO HN1.out⟩, ⟨spec_l5El.R_off H6.out hO HN2.out⟩⟩
          have f3 : (b == 3) = false := by simp only [beq_eq_false_iff_ne]; omega
          rw [if_neg hc] at h2_
          clear hc
          obtain ⟨x0, x1, x2, x3, x4, x5, x6, x7⟩ := y
          have U2 := Aside0.mk h2_
          clear h2_
          have h := UH.out
          obtain ⟨bcc2, hb2⟩ : ∃ a_ : List S34, a_ = bcc ++ [(⟨x0, x1, x2, x3, x4, x5, x6, x7⟩ : S34)] := ⟨_, rfl⟩
          rw [← hb2] at h
          have NB2 := Aside0.mk hb2
          replace UH := Aside0.mk h
          clear h hb2
          go_wp2_with (first
              | ((with_reducible refine gate_callee (f := 60) rfl ?_); refine goesL_ (some 129) rfl rfl Try.func60 (by kernel_rfl) rfl #[.pointer (some ⟨g, 0, none⟩), .slice AA all.length cA, .pointer (some ⟨m, 0, none⟩)] rfl mA ?_; (with_reducible refine (spec_l5El.inner k g m s0 m1 m2 AA cA all q3 x0 x1 x2 x3 x4 x5 x6 x7 q4 n1 n2 w0 _ IH.out HS.out (spec_l5El.C_of HA.out HS.out) (Kd.R_reads' HA.out).2.1 U2.out).mono ?_); rintro e w4 ⟨v4, v5, v6, rfl, h4, h5, h6, hI, hm, hB, hk⟩; refine ⟨_, rfl, ?_⟩; have E4 := Aside0.mk (Kd.R_lower (Kd.R_mono (ok' := fun k_ => some k_ ≠ (.slice A6 bcc.length c6 : Value).ownBlock) (Kd.R_bound h4) (fun k_ h_ e_ => absurd (Kd.R_lt H6.out k_ e_.symm) (Nat.not_lt.2 h_.2.1))) (spec_l5El.St.Z HS.out)); have E5 := Aside0.mk (Kd.R_lower (Kd.R_mono (ok' := fun k_ => some k_ ≠ (.slice A6 bcc.length c6 : Value).ownBlock) (Kd.R_bound h5) (fun k_ h_ e_ => absurd (Kd.R_lt H6.out k_ e_.symm) (Nat.not_lt.2 h_.2.1))) (spec_l5El.St.Z HS.out)); have E6 := Aside0.mk (Kd.R_lower (Kd.R_mono (ok' := fun k_ => some k_ ≠ (.slice A6 bcc.length c6 : Value).ownBlock) (Kd.R_bound h6) (fun k_ h_ e_ => absurd (Kd.R_lt H6.out k_ e_.symm) (Nat.not_lt.2 h_.2.1))) (spec_l5El.St.Z HS.out)); obtain ⟨Ax4, cx4, e_⟩ := Kd.R_slice h4; subst e_; obtain ⟨Ax5, cx5, e_⟩ := Kd.R_slice h5; subst e_; obtain ⟨Ax6, cx6, e_⟩ := Kd.R_slice h6; subst e_; clear h4 h5 h6; obtain ⟨hS, hO⟩ := spec_l5El.St.kept HS.out hI hm hB hk; replace H4 := Aside0.mk (spec_l5El.R_off H4.out hO (Nat.lt_succ_self _)); replace HA := Aside0.mk (spec_l5El.R_off HA.out hO (Nat.lt_succ_self _)); replace H5 := Aside0.mk (spec_l5El.R_off H5.out hO HN1.out); replace H6 := Aside0.mk (spec_l5El.R_off H6.out hO HN2.out); replace HS := Aside0.mk hS; clear hS hO hI hm hB hk)
              | ((with_reducible refine gate_dst (N := 17) rfl ?_); refine box_event ?hg (N := 17) ?hd (cs := #[.int .i64 0, .string (⟨#[]⟩ : ByteArray), .string (⟨#[]⟩ : ByteArray), .string (⟨#[]⟩ : ByteArray), .slice none 0 0, .slice none 0 0, .slice none 0 0, .string (⟨#[]⟩ : ByteArray)]) (t := 34) ?hr ?_; (case hd => rfl); (case hg => rfl); (case hr => first | (go_simp; done) | (go_simp; rfl)); intro gX hg w8 hbox hb; have HX := Aside0.mk (spec_l5El.ch8 (u0 := .int .i64 x0) (u1 := .string x1) (u2 := .string x2) (u3 := .string x3) (u4 := .slice Ax4 x4.length cx4) (u5 := .slice Ax5 x5.length cx5) (u6 := .slice Ax6 x6.length cx6) (u7 := .string x7) hb (Nat.le_of_eq hg.symm)); obtain ⟨zk0, zk1, zk2, zk3, zk4, zk5, zk6, zk7⟩ := bc8 hbox; obtain ⟨yk0, yk1, yk2, yk3, yk4, yk5, yk6, yk7⟩ := bf8 hbox; have z6 := blk_cell (blk_below (spec_l5El.St.C HS.out) hb) 6; have n6 : gN ≠ gX := (by rw [hg]; exact Nat.ne_of_lt (spec_l5El.St.lt HS.out)); have n7 : gX ≠ gN := Ne.symm n6; clear hb hbox hg)
              | ((with_reducible refine gate_builtin (b := .append) (xs := #[.tmp 131, .tmp 133]) rfl ?_); at_builtin; obtain ⟨hS, hO⟩ := spec_l5El.St.below HS.out HX.out; replace H4 := Aside0.mk (spec_l5El.R_off H4.out hO (Nat.lt_succ_self _)); replace HA := Aside0.mk (spec_l5El.R_off HA.out hO (Nat.lt_succ_self _)); replace H5 := Aside0.mk (spec_l5El.R_off H5.out hO HN1.out); replace H6 := Aside0.mk (spec_l5El.R_off H6.out hO HN2.out); replace E4 := Aside0.mk (spec_l5El.R_off E4.out hO HN2.out); replace E5 := Aside0.mk (spec_l5El.R_off E5.out hO HN2.out); replace E6 := Aside0.mk (spec_l5El.R_off E6.out hO HN2.out); replace HS := Aside0.mk hS; clear hS hO; clear HX; refine Kd.R_append k34 (w0 := _) N2 rfl (.tmp 131) (.tmp 133) 32 34 (.agg #[(.int .i64 0), (.string ⟨#[]⟩), (.string ⟨#[]⟩), (.string ⟨#[]⟩), (.slice none 0 0), (.slice none 0 0), (.slice none 0 0), (.string ⟨#[]⟩)]) 144 rfl Try.underlying32 info34 rfl (by decide) (by omega) (.slice A6 bcc.length c6) bcc (⟨x0, x1, x2, x3, x4, x5, x6, x7⟩ : S34) [.int .i64 x0, .string x1, .string x2, .string x3, .slice Ax4 x4.length cx4, .slice Ax5 x5.length cx5, .slice Ax6 x6.length cx6, .string x7] (fun _ => True) (fun k_ => some k_ ≠ (.slice A6 bcc.length c6 : Value).ownBlock) rfl ?aX ?aP (fun _ h_ => ⟨trivial, h_⟩) (fun _ _ => trivial) H6.out (Below.refl _ _) (spec_l5El.St.Z HS.out) ?aL ?_; (case aX => rw [spec_l5El.sz8]; rfl); (case aP => exact k34_mkM _ _ _ (⟨x0, x1, x2, x3, x4, x5, x6, x7⟩ : S34) E4.out E5.out E6.out); (case aL => have := HIB.out; omega); intro v9 w9 ho hb hg hat; rw [← NB2.out] at ho; have hrow := Kd.R_base H6.out; replace H4 := Aside0.mk (Kd.R_grown H4.out hg (fun k_ h_ e_ => Nat.lt_irrefl _ (Nat.lt_of_lt_of_le h_ (hrow k_ e_.symm)))); replace HA := Aside0.mk (Kd.R_grown HA.out hg (fun k_ h_ e_ => Nat.lt_irrefl _ (Nat.lt_of_lt_of_le h_ (hrow k_ e_.symm)))); replace H5 := Aside0.mk (Kd.R_grown H5.out hg (fun k_ h_ e_ => Nat.lt_irrefl _ (Nat.lt_of_lt_of_le h_ (hrow k_ e_.symm)))); replace HS := Aside0.mk (spec_l5El.St.grown HS.out hg (fun k_ e_ => Nat.lt_of_lt_of_le HN2.out (hrow k_ e_))); replace H6 := Aside0.mk ho; clear ho hb hg hat hrow; clear E4 E5 E6 z6 n6 n7 zk0 zk1 zk2 zk3 zk4 zk5 zk6 zk7 yk0 yk1 yk2 yk3 yk4 yk5 yk6 yk7; have z6 := (blk_cell (spec_l5El.St.C HS.out) 6).trans (show _ = some (.slice A6 bcc.length c6) from rfl); have y6 := blk_frozen (spec_l5El.St.C HS.out) 6; obtain ⟨A9, c9, e_⟩ := Kd.R_slice H6.out; subst e_))
          obtain ⟨hS, hO⟩ := spec_l5El.St.set HS.out 6 (.slice A9 bcc2.length c9) (vs' := #[.int .i64 1, .string pp, .string t, .string uu, .slice A4 d.length c4, (.slice A5 acc.length c5), (.slice A9 bcc2.length c9), .string (⟨#[]⟩ : ByteArray)]) rfl
          go_roundg n
          case measure => have := HIB.out; omega
          case rel => exact ⟨n, i - 1, bcc2, _, _, _, _, Nat.le_refl _, by have := HIB.out; rw [Go.IntWalk.wrap64_in _ (by omega)], UH, ⟨hS⟩, ⟨spec_l5El.R_off H4.out hO (Nat.lt_succ_self _)⟩, ⟨spec_l5El.R_off HA.out hO (Nat.lt_succ_self _)⟩, ⟨spec_l5El.R_off H5.out hO HN1.out⟩, ⟨spec_l5El.R_off H6.out hO HN2.out⟩⟩

end Go.Proofs.Ytdbinpeglamnnaa.PM
