-- Written by the session's program hprint.py, over the kit's print program. Lean checks it.
import Derived.Test.YtdbinpeglamnnaaPMx0
import Derived.Test.YtdbinpeglamnnaaPMx1
import Derived.Test.YtdbinpeglamnnaaPMx2
import Derived.Test.YtdbinpeglamnnaaPMx5
import Derived.Test.YtdbinpeglamnnaaPMx6
namespace Go.Proofs.Ytdbinpeglamnnaa.PM
open Go.RowKit Go.Proofs.YtdbinpeglamnnaaW.PrintWords Go.Proofs.YtdbinpeglamnnaaW.PrintLast Go.Proofs.YtdbinpeglamnnaaW.PrintMore
attribute [local go_sem] max2_int min2_int max_two min_two max_three min_three max_four min_four   -- for this text's walks alone
set_option linter.unusedVariables false
set_option linter.unusedSimpArgs false
set_option maxHeartbeats 8000000
set_option maxRecDepth 100000

attribute [local go_sem high] eqA88 eqA90
/-! ### spec_DrawMerge: function 33 -/
def spec_DrawMerge.one (k : Nat) (s0 : List Int) (b s1 s2 : Int) : Option (S34 × Int × Int) := if b = 0 ∨ b = 1 then (spec_l1Str.f s0 s1 s2 ([(⟨#[]⟩ : ByteArray), (⟨#[120]⟩ : ByteArray), (⟨#[32]⟩ : ByteArray)] : List ByteArray)).bind fun t => some ((⟨2, (⟨#[]⟩ : ByteArray), (⟨#[]⟩ : ByteArray), (⟨#[]⟩ : ByteArray), [], [], [], t.1⟩ : S34), t.2.1, t.2.2) else (spec_l5El.f k s0 s1 s2 [] 2).bind fun y => some (y.1, y.2.2.1, y.2.2.2)
def spec_DrawMerge.l0 (k : Nat) (s0 : List Int) : Nat → Int → List S34 → Int → Int → Option (List S34)
  | 0, _, _, _, _ => none
  | n + 1, i, acc, s1, s2 => if i > 0 then (spec_l1Below.f s0 s1 s2 3).bind fun b => (spec_DrawMerge.one k s0 b.1 b.2.1 b.2.2).bind fun y => if acc.length < 549755813888 ∧ i ≤ 1048576 then spec_DrawMerge.l0 k s0 n (i - 1) (acc ++ [y.1]) y.2.1 y.2.2 else none else some acc
def spec_DrawMerge.f (k : Nat) (l0 : List Int) : Option (List S34) := (spec_l1New.f k l0).bind fun c => (spec_l1Below.f c.1 c.2.1 c.2.2 7).bind fun i => spec_DrawMerge.l0 k c.1 k i.1 [] i.2.1 i.2.2
theorem spec_DrawMerge.set1 {W0 W : World} {g : Nat} {u : Value} (hb : Below W0.heap.size W0 W) (hg : W0.heap.size ≤ g) : Below W0.heap.size W0 (W.setCell ⟨g, 0, none⟩ u) := below_set hb hg
theorem spec_DrawMerge.ch8 {W0 W : World} {g : Nat} {u0 u1 u2 u3 u4 u5 u6 u7 : Value} (hb : Below W0.heap.size W0 W) (hg : W0.heap.size ≤ g) :
    Below W0.heap.size W0 ((((((((W.setCell ⟨g, 0, none⟩ u0).setCell ⟨g, 1, none⟩ u1).setCell ⟨g, 2, none⟩ u2).setCell ⟨g, 3, none⟩ u3).setCell ⟨g, 4, none⟩ u4).setCell ⟨g, 5, none⟩ u5).setCell ⟨g, 6, none⟩ u6).setCell ⟨g, 7, none⟩ u7) :=
  below_set (below_set (below_set (below_set (below_set (below_set (below_set (below_set hb hg) hg) hg) hg) hg) hg) hg) hg
theorem spec_DrawMerge.inner (k g m : Nat) (s0 : List Int) (s1 s2 : Int) (A1 : Option Addr) (c1 : Nat) (x0 : Int) (x1 x2 x3 : ByteArray) (x4 : List S88) (x5 : List S90) (x6 : List S34) (x7 : ByteArray) (q' s1' s2' : Int) (w0 w : World) (hI : IsS99 w0 w g s0 s1 s2) (hm : w.heap[m]? = some (.cells #[.int .i64 2] 3 (0, 0))) (hm0 : w0.heap.size ≤ m) (hgm : g ≠ m) (hB : Below w0.heap.size w0 w) (h : spec_l5El.f k s0 s1 s2 [] 2 = some (⟨x0, x1, x2, x3, x4, x5, x6, x7⟩, q', s1', s2')) :
    Calls Try.prog 60 #[.pointer (some ⟨g, 0, none⟩), .slice A1 0 c1, .pointer (some ⟨m, 0, none⟩)] w fun e w' => ∃ v4 v5 v6 : Value, e = .returned (.agg #[.int .i64 x0, .string x1, .string x2, .string x3, v4, v5, v6, .string x7]) ∧ Kd.R k88 88 w' w.heap.size (fun _ => True) v4 x4 ∧ Kd.R k90 90 w' w.heap.size (fun _ => True) v5 x5 ∧ Kd.R k34 34 w' w.heap.size (fun _ => True) v6 x6 ∧ IsS99 w0 w' g s0 s1' s2' ∧ w'.heap[m]? = some (.cells #[.int .i64 q'] 3 (0, 0)) ∧ Below w0.heap.size w0 w' ∧ Kept w w' (fun k_ => k_ = g ∨ k_ = m) :=
  spec_l5El.calls k g m s0 s1 s2 A1 c1 [] 2 ⟨x0, x1, x2, x3, x4, x5, x6, x7⟩ q' s1' s2' w0 w hI hm hm0 hgm hB (fun _ _ => ⟨rfl, by simp, fun h => absurd h (Nat.lt_irrefl 0)⟩) (Nat.zero_le _) h
set_option maxHeartbeats 16000000 in
set_option maxRecDepth 100000 in
theorem spec_DrawMerge.calls (k : Nat) (A0 : Option Addr) (c0 : Nat) (l0 : List Int) (r : List S34) (w : World) (hr0 : Kd.C (Kd.int .u8) w A0 l0.length l0) (hc0 : l0.length ≤ c0) (h : spec_DrawMerge.f k l0 = some r) :
    Calls Try.prog 33 #[.slice A0 l0.length c0] w fun e w' => ∃ v0_ : Value, e = .returned (v0_) ∧ Kd.R k34 34 w' w.heap.size (fun _ => True) v0_ r ∧ Below w.heap.size w w' := by
  have HB := Aside0.mk (Below.refl w.heap.size w)
  have HR := Aside0.mk hr0
  have HC := Aside0.mk hc0
  clear hr0 hc0
  unfold spec_DrawMerge.f at h
  obtain ⟨⟨s0, a1, a2⟩, h1_, h⟩ := Option.bind_eq_some_iff.1 h
  obtain ⟨⟨i0, b1, b2⟩, h2_, h⟩ := Option.bind_eq_some_iff.1 h
  dsimp only at h2_ h
  have T1 := Aside0.mk h1_
  have T2 := Aside0.mk h2_
  have TH := Aside0.mk h
  clear h1_ h2_ h
  have hu34 := Try.underlying34
  go_enter Try.func33, Try.ntmps33
  go_wp2_with (first
    | ((with_reducible refine gate_callee (f := 57) rfl ?_); refine goesL_ (some 9) rfl rfl Try.func57 (by kernel_rfl) rfl #[.slice A0 l0.length c0] rfl mA ?_; (with_reducible refine (spec_l1New.calls k A0 c0 l0 s0 a1 a2 w _ HB.out HR.out HC.out T1.out).mono ?_); rintro e w2 ⟨g, rfl, hI, hB, -⟩; refine ⟨_, rfl, ?_⟩; have HI := Aside0.mk hI; replace HB := Aside0.mk hB; clear hI hB)
    | ((with_reducible refine gate_dst (N := 10) rfl ?_); refine Kd.R_lit k34 _ 34 ?hg (N := 10) ?hd (xs := ([] : List S34)) (inner := []) (ok := fun _ => True) (okp := fun _ => True) ?hr ?hp (fun _ hk => hk) trivial (Below.refl _ _) (Nat.le_refl _) (by simp) ?_; (case hd => rfl); (case hg => rfl); (case hr => first | (go_simp; done) | (go_simp; rfl)); (case hp => exact (Reps.none _ _)); intro v3 w3 ho hb hg_ hnew_; clear hg_ hnew_; have HO := Aside0.mk (Kd.R_lower ho HB.out.size); replace HI := Aside0.mk (IsS99.below HI.out hb); replace HB := Aside0.mk (below_step HB.out hb); clear ho hb; obtain ⟨Ao, co, e_⟩ := Kd.R_slice HO.out; subst e_)
    | ((with_reducible refine gate_callee (f := 58) rfl ?_); refine goesL_ (some 12) rfl rfl Try.func58 (by kernel_rfl) rfl #[.pointer (some ⟨g, 0, none⟩), .int .i64 7] rfl mA ?_; (with_reducible refine (spec_l1Below.calls g s0 a1 a2 7 i0 b1 b2 w _ HI.out HB.out T2.out).mono ?_); rintro e w4 ⟨rfl, hI, hB, hk⟩; refine ⟨_, rfl, ?_⟩; replace HO := Aside0.mk (Kd.R_mono (ok' := fun _ => True) (Kd.R_keep (IsS99.apart HI.out HO.out (by decide)) hk (fun _ h_ => h_.2)) (fun _ _ => trivial)); replace HI := Aside0.mk hI; replace HB := Aside0.mk hB; clear hI hB hk))
  go_loopg [4, 5] k (fun gg s4 s5 wr => ∃ (n : Nat) (i : Int) (acc : List S34) (s1 s2 : Int), n ≤ gg ∧ s5 = .int .i64 i ∧ Aside0 (spec_DrawMerge.l0 k s0 n i acc s1 s2 = some r) ∧ Aside0 (Kd.R k34 34 wr w.heap.size (fun _ => True) s4 acc) ∧ Aside0 (IsS99 w wr g s0 s1 s2) ∧ Aside0 (Below w.heap.size w wr))
  case atStart => exact ⟨k, i0, [], b1, b2, Nat.le_refl _, rfl, TH, ⟨HO.out⟩, ⟨HI.out⟩, ⟨HB.out⟩⟩
  case round =>
    clear TH HO HI HB
    obtain ⟨n, i, acc, s1, s2, hgg, rfl, TH, HO, HI, HB⟩ := hrel
    cases n with
    | zero => exact absurd TH.out (by simp [spec_DrawMerge.l0])
    | succ n =>
      have H := TH.out
      simp only [spec_DrawMerge.l0] at H
      clear TH
      by_cases hi : i > 0
      case neg =>
        rw [if_neg hi, Option.some.injEq] at H
        subst H
        have hd : decide (0 < i) = false := decide_eq_false hi
        clear hi
        go_wp2
        go_ret
        exact ⟨_, rfl, HO.out, HB.out⟩
      case pos =>
        rw [if_pos hi] at H
        obtain ⟨⟨b, p1, p2⟩, hb_, H⟩ := Option.bind_eq_some_iff.1 H
        obtain ⟨⟨y, q1, q2⟩, hy_, H⟩ := Option.bind_eq_some_iff.1 H
        dsimp only at hy_ H
        obtain ⟨⟨hl, hi2⟩, H⟩ := if_som H
        have TB := Aside0.mk hb_
        have TH := Aside0.mk H
        have HLEN := Aside0.mk hl
        have HIB := Aside0.mk (And.intro hi hi2)
        have hd : decide (0 < i) = true := decide_eq_true hi
        clear hb_ H hl hi hi2
        simp only [spec_DrawMerge.one] at hy_
        by_cases hc : b = 0 ∨ b = 1
        · rcases hc with rfl | rfl
          all_goals
            rw [if_pos (by omega)] at hy_
            obtain ⟨⟨t1, t2, t3⟩, ht_, hy_⟩ := Option.bind_eq_some_iff.1 hy_
            simp only [Option.some.injEq, Prod.mk.injEq] at hy_
            obtain ⟨rfl, rfl, rfl⟩ := hy_
            obtain ⟨ys, hys⟩ : ∃ ys : List ByteArray, ys = ([(⟨#[]⟩ : ByteArray), (⟨#[120]⟩ : ByteArray), (⟨#[32]⟩ : ByteArray)] : List ByteArray) := ⟨_, rfl⟩
            rw [← hys] at ht_
            have NY := Aside0.mk hys
            have TT := Aside0.mk ht_
            clear ht_ hys
            go_wp2_with (first
          | ((with_reducible refine gate_callee (f := 58) rfl ?_); refine goesL_ (some 18) rfl rfl Try.func58 (by kernel_rfl) rfl #[.pointer (some ⟨g, 0, none⟩), .int .i64 3] rfl mA ?_; (with_reducible refine (spec_l1Below.calls g s0 s1 s2 3 _ p1 p2 w _ HI.out HB.out TB.out).mono ?_); rintro e w4 ⟨rfl, hI, hB, hk⟩; refine ⟨_, rfl, ?_⟩; replace HO := Aside0.mk (Kd.R_mono (ok' := fun _ => True) (Kd.R_keep (IsS99.apart HI.out HO.out (by decide)) hk (fun _ h_ => h_.2)) (fun _ _ => trivial)); replace HI := Aside0.mk hI; replace HB := Aside0.mk hB; clear hI hB hk)
          | ((with_reducible refine gate_dst (N := 31) rfl ?_); refine Kd.R_lit Kd.string _ 9 ?hg (N := 31) ?hd (xs := ([(⟨#[]⟩ : ByteArray), (⟨#[120]⟩ : ByteArray), (⟨#[32]⟩ : ByteArray)] : List ByteArray)) (inner := [.string (⟨#[]⟩ : ByteArray), .string (⟨#[120]⟩ : ByteArray), .string (⟨#[32]⟩ : ByteArray)]) (ok := fun _ => True) (okp := fun _ => True) ?hr ?hp (fun _ hk => hk) trivial (Below.refl _ _) (Nat.le_refl _) (by simp) ?_; (case hd => rfl); (case hg => rfl); (case hr => first | (go_simp; done) | (go_simp; rfl)); (case hp => exact (Reps.one (show Kd.M Kd.string _ _ _ (⟨#[]⟩ : ByteArray) [.string (⟨#[]⟩ : ByteArray)] from rfl) (Reps.one (show Kd.M Kd.string _ _ _ (⟨#[120]⟩ : ByteArray) [.string (⟨#[120]⟩ : ByteArray)] from rfl) (Reps.one (show Kd.M Kd.string _ _ _ (⟨#[32]⟩ : ByteArray) [.string (⟨#[32]⟩ : ByteArray)] from rfl) (Reps.none _ _))))); intro v6 w6 hs hb hg_ hnew_; clear hg_ hnew_; rw [← NY.out] at hs; have HS := Aside0.mk (Kd.R_lower hs HB.out.size); replace HO := Aside0.mk (Kd.R_below HO.out hb); replace HI := Aside0.mk (IsS99.below HI.out hb); replace HB := Aside0.mk (below_step HB.out hb); clear hs hb; obtain ⟨As, cs, e_⟩ := Kd.R_slice HS.out; subst e_)
          | ((with_reducible refine gate_callee (f := 59) rfl ?_); refine goesL_ (some 32) rfl rfl Try.func59 (by kernel_rfl) rfl #[.pointer (some ⟨g, 0, none⟩), .slice As ys.length cs] rfl mA ?_; (with_reducible refine (spec_l1Str.calls g s0 p1 p2 As cs ys t1 _ _ w _ HI.out HB.out (Kd.R_reads' HS.out).2.2 (Kd.R_reads' HS.out).2.1 (far_slice (IsS99.own_ne HI.out HS.out (by decide))) TT.out).mono ?_); rintro e w7 ⟨rfl, hI, hB, hk⟩; refine ⟨_, rfl, ?_⟩; replace HO := Aside0.mk (Kd.R_mono (ok' := fun _ => True) (Kd.R_keep (IsS99.apart HI.out HO.out (by decide)) hk (fun _ h_ => h_.2)) (fun _ _ => trivial)); replace HI := Aside0.mk hI; replace HB := Aside0.mk hB; clear hI hB hk; clear HS)
          | ((with_reducible refine gate_builtin (b := .append) (xs := #[.tmp 29, .tmp 34]) rfl ?_); at_builtin; refine Kd.R_append k34 (w0 := w) w.heap.size rfl (.tmp 29) (.tmp 34) 32 34 (.agg #[(.int .i64 0), (.string ⟨#[]⟩), (.string ⟨#[]⟩), (.string ⟨#[]⟩), (.slice none 0 0), (.slice none 0 0), (.slice none 0 0), (.string ⟨#[]⟩)]) 144 rfl Try.underlying32 info34 rfl (by decide) (by omega) u4 acc (⟨2, (⟨#[]⟩ : ByteArray), (⟨#[]⟩ : ByteArray), (⟨#[]⟩ : ByteArray), [], [], [], t1⟩ : S34) [.int .i64 2, .string (⟨#[]⟩ : ByteArray), .string (⟨#[]⟩ : ByteArray), .string (⟨#[]⟩ : ByteArray), .slice none 0 0, .slice none 0 0, .slice none 0 0, .string t1] (fun _ => True) (fun k_ => some k_ ≠ (u4 : Value).ownBlock) rfl rfl ?aP (fun _ hk => ⟨trivial, hk⟩) (fun _ _ => trivial) HO.out HB.out HB.out.size ?aL ?_; (case aP => exact k34_mkM _ _ _ (⟨2, (⟨#[]⟩ : ByteArray), (⟨#[]⟩ : ByteArray), (⟨#[]⟩ : ByteArray), [], [], [], t1⟩ : S34) (Kd.R_nil _ _ _ _ _) (Kd.R_nil _ _ _ _ _) (Kd.R_nil _ _ _ _ _)); (case aL => have := HLEN.out; omega); intro v9 w9 ho hb hg hat; replace HI := Aside0.mk (IsS99.grown HI.out hg (IsS99.own_ne HI.out HO.out (by decide))); replace HB := Aside0.mk hb; have HO2 := Aside0.mk ho; clear HO ho hb hg hat))
            go_roundg n
            case measure => omega
            case rel => exact ⟨n, i - 1, _, _, _, Nat.le_refl _, by have := HIB.out; rw [Go.IntWalk.wrap64_in _ (by omega)], TH, ⟨HO2.out⟩, ⟨HI.out⟩, ⟨HB.out⟩⟩
        · rw [if_neg hc] at hy_
          obtain ⟨⟨⟨x0, x1, x2, x3, x4, x5, x6, x7⟩, z0, z1, z2⟩, hx_, hy_⟩ := Option.bind_eq_some_iff.1 hy_
          simp only [Option.some.injEq, Prod.mk.injEq] at hy_
          obtain ⟨rfl, rfl, rfl⟩ := hy_
          have TX := Aside0.mk hx_
          have e0 : (b == 0) = false := by simp only [beq_eq_false_iff_ne]; omega
          have e1 : (b == 1) = false := by simp only [beq_eq_false_iff_ne]; omega
          clear hx_ hc
          go_wp2_with (first
          | ((with_reducible refine gate_callee (f := 58) rfl ?_); refine goesL_ (some 18) rfl rfl Try.func58 (by kernel_rfl) rfl #[.pointer (some ⟨g, 0, none⟩), .int .i64 3] rfl mA ?_; (with_reducible refine (spec_l1Below.calls g s0 s1 s2 3 _ p1 p2 w _ HI.out HB.out TB.out).mono ?_); rintro e w4 ⟨rfl, hI, hB, hk⟩; refine ⟨_, rfl, ?_⟩; replace HO := Aside0.mk (Kd.R_mono (ok' := fun _ => True) (Kd.R_keep (IsS99.apart HI.out HO.out (by decide)) hk (fun _ h_ => h_.2)) (fun _ _ => trivial)); replace HI := Aside0.mk hI; replace HB := Aside0.mk hB; clear hI hB hk)
          | ((with_reducible refine gate_dst (N := 6) rfl ?_); refine box_event ?hg (N := 6) ?hd (cs := #[.int .i64 0]) (t := 3) ?hr ?_; (case hd => rfl); (case hg => rfl); (case hr => first | (go_simp; done) | (go_simp; rfl)); intro gN hg w5 hbox hb; have BM := Aside0.mk (blk_put (cs' := #[.int .i64 2]) hbox 0 (.int .i64 2) rfl); have zm : w5.cell? ⟨gN, 0, none⟩ = some (.int .i64 0) := blk_cell hbox 0; have ym := blk_frozen hbox 0; have HC := spec_DrawMerge.set1 (u := .int .i64 2) hb (Nat.le_of_eq hg.symm); have HGM := Aside0.mk (show g ≠ gN by rw [hg]; exact Nat.ne_of_lt (IsS99.lt HI.out)); have HM0 := Aside0.mk (show w.heap.size ≤ gN by rw [hg]; exact HB.out.size); replace HO := Aside0.mk (Kd.R_below HO.out HC); replace HI := Aside0.mk (IsS99.below HI.out HC); replace HB := Aside0.mk (below_step HB.out HC); clear hb hg hbox HC)
          | ((with_reducible refine gate_dst (N := 20) rfl ?_); refine Kd.R_lit k88 _ 88 ?hg (N := 20) ?hd (xs := ([] : List S88)) (inner := []) (ok := fun _ => True) (okp := fun _ => True) ?hr ?hp (fun _ hk => hk) trivial (Below.refl _ _) (Nat.le_refl _) (by simp) ?_; (case hd => rfl); (case hg => rfl); (case hr => first | (go_simp; done) | (go_simp; rfl)); (case hp => exact (Reps.none _ _)); intro v6 w6 hs hb hg_ hnew_; clear hg_ hnew_; obtain ⟨Ad, cd, e_⟩ := Kd.R_slice hs; subst e_; replace BM := Aside0.mk (blk_below BM.out hb); replace HO := Aside0.mk (Kd.R_below HO.out hb); replace HI := Aside0.mk (IsS99.below HI.out hb); replace HB := Aside0.mk (below_step HB.out hb); clear hs hb zm ym)
          | ((with_reducible refine gate_callee (f := 60) rfl ?_); refine goesL_ (some 21) rfl rfl Try.func60 (by kernel_rfl) rfl #[.pointer (some ⟨g, 0, none⟩), .slice Ad 0 cd, .pointer (some ⟨gN, 0, none⟩)] rfl mA ?_; (with_reducible refine (spec_DrawMerge.inner k g gN s0 p1 p2 Ad cd x0 x1 x2 x3 x4 x5 x6 x7 z0 _ _ w _ HI.out BM.out HM0.out HGM.out HB.out TX.out).mono ?_); rintro e w7 ⟨v4, v5, v6, rfl, h4, h5, h6, hI, -, hB, hk⟩; refine ⟨_, rfl, ?_⟩; have H4 := Aside0.mk (Kd.R_lower (Kd.R_mono (ok' := fun k_ => some k_ ≠ (u4 : Value).ownBlock) (Kd.R_bound h4) (fun k_ h_ e_ => absurd (Kd.R_lt HO.out k_ e_.symm) (Nat.not_lt.2 h_.2.1))) HB.out.size); have H5 := Aside0.mk (Kd.R_lower (Kd.R_mono (ok' := fun k_ => some k_ ≠ (u4 : Value).ownBlock) (Kd.R_bound h5) (fun k_ h_ e_ => absurd (Kd.R_lt HO.out k_ e_.symm) (Nat.not_lt.2 h_.2.1))) HB.out.size); have H6 := Aside0.mk (Kd.R_lower (Kd.R_mono (ok' := fun k_ => some k_ ≠ (u4 : Value).ownBlock) (Kd.R_bound h6) (fun k_ h_ e_ => absurd (Kd.R_lt HO.out k_ e_.symm) (Nat.not_lt.2 h_.2.1))) HB.out.size); obtain ⟨Ax4, cx4, e_⟩ := Kd.R_slice h4; subst e_; obtain ⟨Ax5, cx5, e_⟩ := Kd.R_slice h5; subst e_; obtain ⟨Ax6, cx6, e_⟩ := Kd.R_slice h6; subst e_; replace HO := Aside0.mk (Kd.R_mono (ok' := fun _ => True) (Kd.R_kept (Kd.R_types (IsS99.apart HI.out HO.out (by decide)) BM.out (by decide)) hk (fun k_ h_ h2_ => h2_.elim (fun e_ => h_.1.2 e_) (fun e_ => h_.2 e_))) (fun _ _ => trivial)); replace HI := Aside0.mk hI; replace HB := Aside0.mk hB; clear hI hB hk h4 h5 h6 BM HM0 HGM)
          | ((with_reducible refine gate_dst (N := 7) rfl ?_); refine box_event ?hg (N := 7) ?hd (cs := #[.int .i64 0, .string (⟨#[]⟩ : ByteArray), .string (⟨#[]⟩ : ByteArray), .string (⟨#[]⟩ : ByteArray), .slice none 0 0, .slice none 0 0, .slice none 0 0, .string (⟨#[]⟩ : ByteArray)]) (t := 34) ?hr ?_; (case hd => rfl); (case hg => rfl); (case hr => first | (go_simp; done) | (go_simp; rfl)); intro gN hg w8 hbox hb; have HC := spec_DrawMerge.ch8 (u0 := .int .i64 x0) (u1 := .string x1) (u2 := .string x2) (u3 := .string x3) (u4 := .slice Ax4 x4.length cx4) (u5 := .slice Ax5 x5.length cx5) (u6 := .slice Ax6 x6.length cx6) (u7 := .string x7) hb (Nat.le_of_eq hg.symm); obtain ⟨zk0, zk1, zk2, zk3, zk4, zk5, zk6, zk7⟩ := bc8 hbox; obtain ⟨yk0, yk1, yk2, yk3, yk4, yk5, yk6, yk7⟩ := bf8 hbox; replace H4 := Aside0.mk (Kd.R_below H4.out HC); replace H5 := Aside0.mk (Kd.R_below H5.out HC); replace H6 := Aside0.mk (Kd.R_below H6.out HC); replace HO := Aside0.mk (Kd.R_below HO.out HC); replace HI := Aside0.mk (IsS99.below HI.out HC); replace HB := Aside0.mk (below_step HB.out HC); clear hb hg hbox HC)
          | ((with_reducible refine gate_builtin (b := .append) (xs := #[.tmp 22, .tmp 24]) rfl ?_); at_builtin; refine Kd.R_append k34 (w0 := w) w.heap.size rfl (.tmp 22) (.tmp 24) 32 34 (.agg #[(.int .i64 0), (.string ⟨#[]⟩), (.string ⟨#[]⟩), (.string ⟨#[]⟩), (.slice none 0 0), (.slice none 0 0), (.slice none 0 0), (.string ⟨#[]⟩)]) 144 rfl Try.underlying32 info34 rfl (by decide) (by omega) u4 acc (⟨x0, x1, x2, x3, x4, x5, x6, x7⟩ : S34) [.int .i64 x0, .string x1, .string x2, .string x3, .slice Ax4 x4.length cx4, .slice Ax5 x5.length cx5, .slice Ax6 x6.length cx6, .string x7] (fun _ => True) (fun k_ => some k_ ≠ (u4 : Value).ownBlock) rfl ?aX ?aP (fun _ hk => ⟨trivial, hk⟩) (fun _ _ => trivial) HO.out HB.out HB.out.size ?aL ?_; (case aX => rw [spec_l5El.sz8]; rfl); (case aP => exact k34_mkM _ _ _ (⟨x0, x1, x2, x3, x4, x5, x6, x7⟩ : S34) H4.out H5.out H6.out); (case aL => have := HLEN.out; omega); intro v9 w9 ho hb hg hat; replace HI := Aside0.mk (IsS99.grown HI.out hg (IsS99.own_ne HI.out HO.out (by decide))); replace HB := Aside0.mk hb; have HO2 := Aside0.mk ho; clear HO ho hb hg hat; clear H4 H5 H6 zk0 zk1 zk2 zk3 zk4 zk5 zk6 zk7 yk0 yk1 yk2 yk3 yk4 yk5 yk6 yk7))
          go_roundg n
          case measure => omega
          case rel => exact ⟨n, i - 1, _, _, _, Nat.le_refl _, by have := HIB.out; rw [Go.IntWalk.wrap64_in _ (by omega)], TH, ⟨HO2.out⟩, ⟨HI.out⟩, ⟨HB.out⟩⟩

/-! ### impl_Decl_87: function 87 -/
def impl_Decl_87.l0 : Nat → List (S88) → List (S88) → Int → Int → Option (Bool)
 | 0, _, _, _, _ => none
 | k + 1, x0, x1, x12, x13 => if x13 < x12 then (if 0 ≤ x13 then (if x13 < (x0.length : Int) then (if x13 < (x1.length : Int) then (if (!((((rd_T88 x0 x13).f0).toList) == (((rd_T88 x1 x13).f0).toList)) || (!((((rd_T88 x0 x13).f1).toList) == (((rd_T88 x1 x13).f1).toList)))) = true then (some false) else (impl_Decl_87.l0 k x0 x1 x12 (wrap64 (x13 + 1)))) else (none)) else (none)) else (none)) else (some true)
def impl_Decl_87.f (k : Nat) (l0 : List (S88)) (l1 : List (S88)) : Option (Bool) := if (l0.length : Int) = (l1.length : Int) then (impl_Decl_87.l0 k l0 l1 (l0.length : Int) 0) else (some false)
theorem impl_Decl_87.calls (k : Nat) (A0 : Option Addr) (c0 : Nat) (l0 : List (S88)) (A1 : Option Addr) (c1 : Nat) (l1 : List (S88)) (r : Bool) (w : World) (hr0 : Kd.C k88 w A0 l0.length l0) (hc0 : l0.length ≤ c0) (hr1 : Kd.C k88 w A1 l1.length l1) (hc1 : l1.length ≤ c1) (h : impl_Decl_87.f k l0 l1 = some r) :
  Calls Try.prog 87 #[.slice A0 l0.length c0, .slice A1 l1.length c1] w fun e w' => e = .returned (.bool r) ∧ Drawn0 w w' := by
 have hu88 := Try.underlying88
 have HR0 := Aside0.mk hr0
 have HC0 := Aside0.mk hc0
 clear hr0 hc0
 have HR1 := Aside0.mk hr1
 have HC1 := Aside0.mk hc1
 clear hr1 hc1
 have H : (if (l0.length : Int) = (l1.length : Int) then (impl_Decl_87.l0 k l0 l1 (l0.length : Int) 0) else (some false)) = some r := h
 clear h
 by_cases c3 : (l0.length : Int) = (l1.length : Int)
 ·rw [if_pos c3] at H
  obtain ⟨c3b0, c3b1⟩ := eqT c3
  have c3b2 : (l0.length == l1.length) = true := by first | simpa using c3 | (simp at c3 ⊢; omega)
  clear c3
  have H' := Aside0.mk H
  clear H
  go_enter Try.func87, Try.ntmps87
  go_wp2
  repeat (go_quiet (fail); try go_wp2)
  go_loopg [13] k (fun kq v13 w' => ∃ (x13_1 : Int), v13 = .int .i64 x13_1 ∧ Aside0 (impl_Decl_87.l0 kq l0 l1 (l0.length : Int) x13_1 = some r) ∧ Aside0 (kq ≤ k) ∧ Drawn0 w w')
  case atStart => exact ⟨(0), rG, H', ⟨Nat.le_refl _⟩, by repeat (first | exact Drawn0.refl _ | apply Drawn0.step)⟩
  case round =>
   clear H'
   try clear c3; try clear c3b2; try clear c3b1; try clear c3b0
   obtain ⟨x13_1, rfl, HA, HK1, ⟨m1, rfl⟩⟩ := hrel
   cases gk with
   | zero => exact absurd HA.out (by simp [impl_Decl_87.l0])
   | succ k1 =>
    have H := HA.out
    clear HA
    simp only [impl_Decl_87.l0] at H
    by_cases c4 : x13_1 < (l0.length : Int)
    ·rw [if_pos c4] at H
     have c4b0 : decide (x13_1 < (l0.length : Int)) = true := decide_eq_true c4
     clear c4
     obtain ⟨c5, H⟩ := if_som H
     have c5b0 : decide (0 ≤ x13_1) = true := decide_eq_true c5
     clear c5
     obtain ⟨c6, H⟩ := if_som H
     have c6b0 : decide (x13_1 < (l0.length : Int)) = true := decide_eq_true c6
     clear c6
     obtain ⟨c7, H⟩ := if_som H
     have c7b0 : decide (x13_1 < (l1.length : Int)) = true := decide_eq_true c7
     clear c7
     by_cases c8 : (!((((rd_T88 l0 x13_1).f0).toList) == (((rd_T88 l1 x13_1).f0).toList)) || (!((((rd_T88 l0 x13_1).f1).toList) == (((rd_T88 l1 x13_1).f1).toList)))) = true
     ·rw [if_pos c8] at H
      have c8b0 : (!((((rd_T88 l0 x13_1).f0).toList) == (((rd_T88 l1 x13_1).f0).toList)) || (!((((rd_T88 l0 x13_1).f1).toList) == (((rd_T88 l1 x13_1).f1).toList)))) = true := c8
      clear c8
      obtain rfl := Option.some.inj H
      have p369 : 0 ≤ (x13_1 : Int) := odt
      have q369 : x13_1 < (l0.length : Int) := odt
      obtain ⟨ad369, e369, hx369_0, hx369_1⟩ := at_T88 HR0.out x13_1 p369 q369
      cases e369
      replace p369 := eq_true p369
      replace q369 := eq_true q369
      have p370 : 0 ≤ (x13_1 : Int) := odt
      have q370 : x13_1 < (l1.length : Int) := odt
      obtain ⟨ad370, e370, hx370_0, hx370_1⟩ := at_T88 HR1.out x13_1 p370 q370
      cases e370
      replace p370 := eq_true p370
      replace q370 := eq_true q370
      go_wp2
      repeat (go_quiet (fail); try go_wp2)
      go_ret
      exact ⟨by first | rfl | (simp; done) | (simp [*]; done), by repeat (first | exact Drawn0.refl _ | apply Drawn0.step)⟩
     ·rw [if_neg c8] at H
      have c8b0 : (!((((rd_T88 l0 x13_1).f0).toList) == (((rd_T88 l1 x13_1).f0).toList)) || (!((((rd_T88 l0 x13_1).f1).toList) == (((rd_T88 l1 x13_1).f1).toList)))) = false := by simpa using c8
      clear c8
      have H' := Aside0.mk H
      clear H
      have p369 : 0 ≤ (x13_1 : Int) := odt
      have q369 : x13_1 < (l0.length : Int) := odt
      obtain ⟨ad369, e369, hx369_0, hx369_1⟩ := at_T88 HR0.out x13_1 p369 q369
      cases e369
      replace p369 := eq_true p369
      replace q369 := eq_true q369
      have p370 : 0 ≤ (x13_1 : Int) := odt
      have q370 : x13_1 < (l1.length : Int) := odt
      obtain ⟨ad370, e370, hx370_0, hx370_1⟩ := at_T88 HR1.out x13_1 p370 q370
      cases e370
      replace p370 := eq_true p370
      replace q370 := eq_true q370
      go_wp2
      repeat (go_quiet (fail); try go_wp2)
      go_roundg k1
      case measure => have := HK1.out; omega
      case rel => exact ⟨(wrap64 (x13_1 + 1)), rG, H', ⟨by have := HK1.out; omega⟩, by repeat (first | exact Drawn0.refl _ | apply Drawn0.step)⟩
    ·rw [if_neg c4] at H
     have c4b0 : decide (x13_1 < (l0.length : Int)) = false := decide_eq_false c4
     clear c4
     obtain rfl := Option.some.inj H
     go_wp2
     repeat (go_quiet (fail); try go_wp2)
     go_ret
     exact ⟨by first | rfl | (simp; done) | (simp [*]; done), by repeat (first | exact Drawn0.refl _ | apply Drawn0.step)⟩
 ·rw [if_neg c3] at H
  obtain ⟨c3b0, c3b1⟩ := eqF c3
  have c3b2 : (l0.length == l1.length) = false := by first | simpa using c3 | (simp at c3 ⊢; omega)
  obtain rfl := Option.some.inj H
  go_enter Try.func87, Try.ntmps87
  go_wp2
  repeat (go_quiet (fail); try go_wp2)
  go_ret
  exact ⟨by first | rfl | (simp; done) | (simp [*]; done), by repeat (first | exact Drawn0.refl _ | apply Drawn0.step)⟩

/-! ### impl_Attr_88: function 88 -/
def impl_Attr_88.l0 : Nat → List (S90) → List (S90) → Int → Int → Option (Bool)
 | 0, _, _, _, _ => none
 | k + 1, x0, x1, x12, x13 => if x13 < x12 then (if 0 ≤ x13 then (if x13 < (x0.length : Int) then (if x13 < (x1.length : Int) then (if (!((((rd_T90 x0 x13).f0).toList) == (((rd_T90 x1 x13).f0).toList)) || (!((((rd_T90 x0 x13).f1).toList) == (((rd_T90 x1 x13).f1).toList)) || (!((((rd_T90 x0 x13).f2).toList) == (((rd_T90 x1 x13).f2).toList)) || (!((((rd_T90 x0 x13).f3).toList) == (((rd_T90 x1 x13).f3).toList)))))) = true then (some false) else (impl_Attr_88.l0 k x0 x1 x12 (wrap64 (x13 + 1)))) else (none)) else (none)) else (none)) else (some true)
def impl_Attr_88.f (k : Nat) (l0 : List (S90)) (l1 : List (S90)) : Option (Bool) := if (l0.length : Int) = (l1.length : Int) then (impl_Attr_88.l0 k l0 l1 (l0.length : Int) 0) else (some false)
theorem impl_Attr_88.calls (k : Nat) (A0 : Option Addr) (c0 : Nat) (l0 : List (S90)) (A1 : Option Addr) (c1 : Nat) (l1 : List (S90)) (r : Bool) (w : World) (hr0 : Kd.C k90 w A0 l0.length l0) (hc0 : l0.length ≤ c0) (hr1 : Kd.C k90 w A1 l1.length l1) (hc1 : l1.length ≤ c1) (h : impl_Attr_88.f k l0 l1 = some r) :
  Calls Try.prog 88 #[.slice A0 l0.length c0, .slice A1 l1.length c1] w fun e w' => e = .returned (.bool r) ∧ Drawn0 w w' := by
 have hu90 := Try.underlying90
 have HR0 := Aside0.mk hr0
 have HC0 := Aside0.mk hc0
 clear hr0 hc0
 have HR1 := Aside0.mk hr1
 have HC1 := Aside0.mk hc1
 clear hr1 hc1
 have H : (if (l0.length : Int) = (l1.length : Int) then (impl_Attr_88.l0 k l0 l1 (l0.length : Int) 0) else (some false)) = some r := h
 clear h
 by_cases c3 : (l0.length : Int) = (l1.length : Int)
 ·rw [if_pos c3] at H
  obtain ⟨c3b0, c3b1⟩ := eqT c3
  have c3b2 : (l0.length == l1.length) = true := by first | simpa using c3 | (simp at c3 ⊢; omega)
  clear c3
  have H' := Aside0.mk H
  clear H
  go_enter Try.func88, Try.ntmps88
  go_wp2
  repeat (go_quiet (fail); try go_wp2)
  go_loopg [13] k (fun kq v13 w' => ∃ (x13_1 : Int), v13 = .int .i64 x13_1 ∧ Aside0 (impl_Attr_88.l0 kq l0 l1 (l0.length : Int) x13_1 = some r) ∧ Aside0 (kq ≤ k) ∧ Drawn0 w w')
  case atStart => exact ⟨(0), rG, H', ⟨Nat.le_refl _⟩, by repeat (first | exact Drawn0.refl _ | apply Drawn0.step)⟩
  case round =>
   clear H'
   try clear c3; try clear c3b2; try clear c3b1; try clear c3b0
   obtain ⟨x13_1, rfl, HA, HK1, ⟨m1, rfl⟩⟩ := hrel
   cases gk with
   | zero => exact absurd HA.out (by simp [impl_Attr_88.l0])
   | succ k1 =>
    have H := HA.out
    clear HA
    simp only [impl_Attr_88.l0] at H
    by_cases c4 : x13_1 < (l0.length : Int)
    ·rw [if_pos c4] at H
     have c4b0 : decide (x13_1 < (l0.length : Int)) = true := decide_eq_true c4
     clear c4
     obtain ⟨c5, H⟩ := if_som H
     have c5b0 : decide (0 ≤ x13_1) = true := decide_eq_true c5
     clear c5
     obtain ⟨c6, H⟩ := if_som H
     have c6b0 : decide (x13_1 < (l0.length : Int)) = true := decide_eq_true c6
     clear c6
     obtain ⟨c7, H⟩ := if_som H
     have c7b0 : decide (x13_1 < (l1.length : Int)) = true := decide_eq_true c7
     clear c7
     by_cases c8 : (!((((rd_T90 l0 x13_1).f0).toList) == (((rd_T90 l1 x13_1).f0).toList)) || (!((((rd_T90 l0 x13_1).f1).toList) == (((rd_T90 l1 x13_1).f1).toList)) || (!((((rd_T90 l0 x13_1).f2).toList) == (((rd_T90 l1 x13_1).f2).toList)) || (!((((rd_T90 l0 x13_1).f3).toList) == (((rd_T90 l1 x13_1).f3).toList)))))) = true
     ·rw [if_pos c8] at H
      have c8b0 : (!((((rd_T90 l0 x13_1).f0).toList) == (((rd_T90 l1 x13_1).f0).toList)) || (!((((rd_T90 l0 x13_1).f1).toList) == (((rd_T90 l1 x13_1).f1).toList)) || (!((((rd_T90 l0 x13_1).f2).toList) == (((rd_T90 l1 x13_1).f2).toList)) || (!((((rd_T90 l0 x13_1).f3).toList) == (((rd_T90 l1 x13_1).f3).toList)))))) = true := c8
      clear c8
      obtain rfl := Option.some.inj H
      have p371 : 0 ≤ (x13_1 : Int) := odt
      have q371 : x13_1 < (l0.length : Int) := odt
      obtain ⟨ad371, e371, hx371_0, hx371_1, hx371_2, hx371_3⟩ := at_T90 HR0.out x13_1 p371 q371
      cases e371
      replace p371 := eq_true p371
      replace q371 := eq_true q371
      have p372 : 0 ≤ (x13_1 : Int) := odt
      have q372 : x13_1 < (l1.length : Int) := odt
      obtain ⟨ad372, e372, hx372_0, hx372_1, hx372_2, hx372_3⟩ := at_T90 HR1.out x13_1 p372 q372
      cases e372
      replace p372 := eq_true p372
      replace q372 := eq_true q372
      go_wp2
      repeat (go_quiet (fail); try go_wp2)
      go_ret
      exact ⟨by first | rfl | (simp; done) | (simp [*]; done), by repeat (first | exact Drawn0.refl _ | apply Drawn0.step)⟩
     ·rw [if_neg c8] at H
      have c8b0 : (!((((rd_T90 l0 x13_1).f0).toList) == (((rd_T90 l1 x13_1).f0).toList)) || (!((((rd_T90 l0 x13_1).f1).toList) == (((rd_T90 l1 x13_1).f1).toList)) || (!((((rd_T90 l0 x13_1).f2).toList) == (((rd_T90 l1 x13_1).f2).toList)) || (!((((rd_T90 l0 x13_1).f3).toList) == (((rd_T90 l1 x13_1).f3).toList)))))) = false := by simpa using c8
      clear c8
      have H' := Aside0.mk H
      clear H
      have p371 : 0 ≤ (x13_1 : Int) := odt
      have q371 : x13_1 < (l0.length : Int) := odt
      obtain ⟨ad371, e371, hx371_0, hx371_1, hx371_2, hx371_3⟩ := at_T90 HR0.out x13_1 p371 q371
      cases e371
      replace p371 := eq_true p371
      replace q371 := eq_true q371
      have p372 : 0 ≤ (x13_1 : Int) := odt
      have q372 : x13_1 < (l1.length : Int) := odt
      obtain ⟨ad372, e372, hx372_0, hx372_1, hx372_2, hx372_3⟩ := at_T90 HR1.out x13_1 p372 q372
      cases e372
      replace p372 := eq_true p372
      replace q372 := eq_true q372
      go_wp2
      repeat (go_quiet (fail); try go_wp2)
      go_roundg k1
      case measure => have := HK1.out; omega
      case rel => exact ⟨(wrap64 (x13_1 + 1)), rG, H', ⟨by have := HK1.out; omega⟩, by repeat (first | exact Drawn0.refl _ | apply Drawn0.step)⟩
    ·rw [if_neg c4] at H
     have c4b0 : decide (x13_1 < (l0.length : Int)) = false := decide_eq_false c4
     clear c4
     obtain rfl := Option.some.inj H
     go_wp2
     repeat (go_quiet (fail); try go_wp2)
     go_ret
     exact ⟨by first | rfl | (simp; done) | (simp [*]; done), by repeat (first | exact Drawn0.refl _ | apply Drawn0.step)⟩
 ·rw [if_neg c3] at H
  obtain ⟨c3b0, c3b1⟩ := eqF c3
  have c3b2 : (l0.length == l1.length) = false := by first | simpa using c3 | (simp at c3 ⊢; omega)
  obtain rfl := Option.some.inj H
  go_enter Try.func88, Try.ntmps88
  go_wp2
  repeat (go_quiet (fail); try go_wp2)
  go_ret
  exact ⟨by first | rfl | (simp; done) | (simp [*]; done), by repeat (first | exact Drawn0.refl _ | apply Drawn0.step)⟩

/-! ### impl_sameAlone: function 82 -/
def impl_sameAlone.f (k : Nat) (a0_0 : Int) (a0_1 : ByteArray) (a0_2 : ByteArray) (a0_3 : ByteArray) (l0_4 : List (S88)) (l0_5 : List (S90)) (l0_6 : List (S34)) (a0_7 : ByteArray) (a1_0 : Int) (a1_1 : ByteArray) (a1_2 : ByteArray) (a1_3 : ByteArray) (l1_4 : List (S88)) (l1_5 : List (S90)) (l1_6 : List (S34)) (a1_7 : ByteArray) : Option (Bool) := if a0_0 = a1_0 then (if a0_1.toList = a1_1.toList then (if a0_2.toList = a1_2.toList then (if a0_3.toList = a1_3.toList then (if a0_7.toList = a1_7.toList then ((impl_Decl_87.f k l0_4 l1_4).bind fun t375 => (if t375 = true then ((impl_Attr_88.f k l0_5 l1_5).bind fun t376 => (some t376)) else (some false))) else (some false)) else (some false)) else (some false)) else (some false)) else (some false)
theorem impl_sameAlone.calls (k : Nat) (a0_0 : Int) (a0_1 : ByteArray) (a0_2 : ByteArray) (a0_3 : ByteArray) (A0_4 : Option Addr) (c0_4 : Nat) (l0_4 : List (S88)) (A0_5 : Option Addr) (c0_5 : Nat) (l0_5 : List (S90)) (A0_6 : Option Addr) (c0_6 : Nat) (l0_6 : List (S34)) (a0_7 : ByteArray) (a1_0 : Int) (a1_1 : ByteArray) (a1_2 : ByteArray) (a1_3 : ByteArray) (A1_4 : Option Addr) (c1_4 : Nat) (l1_4 : List (S88)) (A1_5 : Option Addr) (c1_5 : Nat) (l1_5 : List (S90)) (A1_6 : Option Addr) (c1_6 : Nat) (l1_6 : List (S34)) (a1_7 : ByteArray) (r : Bool) (w : World) (hr0_4 : Kd.C k88 w A0_4 l0_4.length l0_4) (hc0_4 : l0_4.length ≤ c0_4) (hr0_5 : Kd.C k90 w A0_5 l0_5.length l0_5) (hc0_5 : l0_5.length ≤ c0_5) (hr0_6 : Kd.C k34 w A0_6 l0_6.length l0_6) (hc0_6 : l0_6.length ≤ c0_6) (hr1_4 : Kd.C k88 w A1_4 l1_4.length l1_4) (hc1_4 : l1_4.length ≤ c1_4) (hr1_5 : Kd.C k90 w A1_5 l1_5.length l1_5) (hc1_5 : l1_5.length ≤ c1_5) (hr1_6 : Kd.C k34 w A1_6 l1_6.length l1_6) (hc1_6 : l1_6.length ≤ c1_6) (h : impl_sameAlone.f k a0_0 a0_1 a0_2 a0_3 l0_4 l0_5 l0_6 a0_7 a1_0 a1_1 a1_2 a1_3 l1_4 l1_5 l1_6 a1_7 = some r) :
  Calls Try.prog 82 #[.agg #[.int .i64 a0_0, .string a0_1, .string a0_2, .string a0_3, .slice A0_4 l0_4.length c0_4, .slice A0_5 l0_5.length c0_5, .slice A0_6 l0_6.length c0_6, .string a0_7], .agg #[.int .i64 a1_0, .string a1_1, .string a1_2, .string a1_3, .slice A1_4 l1_4.length c1_4, .slice A1_5 l1_5.length c1_5, .slice A1_6 l1_6.length c1_6, .string a1_7]] w fun e w' => e = .returned (.bool r) ∧ Below w.heap.size w w' := by
 have hu34 := Try.underlying34
 have HR0_4 := Aside0.mk hr0_4
 have HC0_4 := Aside0.mk hc0_4
 clear hr0_4 hc0_4
 have HR0_5 := Aside0.mk hr0_5
 have HC0_5 := Aside0.mk hc0_5
 clear hr0_5 hc0_5
 have HR0_6 := Aside0.mk hr0_6
 have HC0_6 := Aside0.mk hc0_6
 clear hr0_6 hc0_6
 have HR1_4 := Aside0.mk hr1_4
 have HC1_4 := Aside0.mk hc1_4
 clear hr1_4 hc1_4
 have HR1_5 := Aside0.mk hr1_5
 have HC1_5 := Aside0.mk hc1_5
 clear hr1_5 hc1_5
 have HR1_6 := Aside0.mk hr1_6
 have HC1_6 := Aside0.mk hc1_6
 clear hr1_6 hc1_6
 have HB := Aside0.mk (Below.refl w.heap.size w)
 have H : (if a0_0 = a1_0 then (if a0_1.toList = a1_1.toList then (if a0_2.toList = a1_2.toList then (if a0_3.toList = a1_3.toList then (if a0_7.toList = a1_7.toList then ((impl_Decl_87.f k l0_4 l1_4).bind fun t375 => (if t375 = true then ((impl_Attr_88.f k l0_5 l1_5).bind fun t376 => (some t376)) else (some false))) else (some false)) else (some false)) else (some false)) else (some false)) else (some false)) = some r := h
 clear h
 go_enter Try.func82, Try.ntmps82
 go_wp2_with (first | ((with_reducible refine gate_dst (N := 2) rfl ?_); refine box_event ?hg (N := 2) ?hd (cs := #[.int .i64 a0_0, .string a0_1, .string a0_2, .string a0_3, .slice A0_4 l0_4.length c0_4, .slice A0_5 l0_5.length c0_5, .slice A0_6 l0_6.length c0_6, .string a0_7]) (t := 34) ?hr ?_; (case hd => rfl); (case hg => rfl); (case hr => first | (go_simp; done) | (go_simp; rfl)); intro gb373 hg w3 hbox hb; have BK373 := Aside0.mk (hbox); have GW373 := Aside0.mk ((by rw [hg]; exact (below_size hB) : w.heap.size ≤ gb373)); have GE373 := Aside0.mk ((by rw [hg]; exact (below_size hB) : w.heap.size ≤ gb373)); replace HB := Aside0.mk (below_step hB hb); clear hb hbox hg) | ((with_reducible refine gate_dst (N := 3) rfl ?_); refine box_event ?hg (N := 3) ?hd (cs := #[.int .i64 a1_0, .string a1_1, .string a1_2, .string a1_3, .slice A1_4 l1_4.length c1_4, .slice A1_5 l1_5.length c1_5, .slice A1_6 l1_6.length c1_6, .string a1_7]) (t := 34) ?hr ?_; (case hd => rfl); (case hg => rfl); (case hr => first | (go_simp; done) | (go_simp; rfl)); intro gb374 hg w4 hbox hb; have BK374 := Aside0.mk (hbox); have GW374 := Aside0.mk ((by rw [hg]; exact (below_size hB) : w.heap.size ≤ gb374)); have GE374 := Aside0.mk ((by rw [hg]; exact (below_size hB) : w.heap.size ≤ gb374)); replace HB := Aside0.mk (below_step hB hb); have NB373_374 := Aside0.mk ((by rw [hg]; exact Nat.ne_of_lt (blk_lt (g := gb373) (by (with_reducible repeat (first | refine bN ?_ _|refine bD ?_|refine bA ?_ _)); exact BK373.out)) : gb373 ≠ gb374)); have NB374_373 := Aside0.mk ((by rw [hg]; exact Nat.ne_of_gt (blk_lt (g := gb373) (by (with_reducible repeat (first | refine bN ?_ _|refine bD ?_|refine bA ?_ _)); exact BK373.out)) : gb374 ≠ gb373)); replace BK373 := Aside0.mk (blk_below (g := gb373) (by (with_reducible repeat (first | refine bN ?_ _|refine bD ?_|refine bA ?_ _)); exact BK373.out) hb); clear hb hbox hg; have hnb5 := NB373_374.out; have hnc5 := NB374_373.out; obtain ⟨hcz6_0, hcz6_1, hcz6_2, hcz6_3, hcz6_4, hcz6_5, hcz6_6, hcz6_7⟩ := bc8 BK373.out; obtain ⟨hcz7_0, hcz7_1, hcz7_2, hcz7_3, hcz7_4, hcz7_5, hcz7_6, hcz7_7⟩ := bc8 BK374.out; refine halt_ ?_; intro q_ hq_))
 obtain ⟨rfl⟩ := hq_
 by_cases c8 : a0_0 = a1_0
 ·rw [if_pos c8] at H
  obtain ⟨c8b0, c8b1⟩ := eqT c8
  clear c8
  by_cases c9 : a0_1.toList = a1_1.toList
  ·rw [if_pos c9] at H
   obtain ⟨c9b0, c9b1⟩ := eqT c9
   clear c9
   by_cases c10 : a0_2.toList = a1_2.toList
   ·rw [if_pos c10] at H
    obtain ⟨c10b0, c10b1⟩ := eqT c10
    clear c10
    by_cases c11 : a0_3.toList = a1_3.toList
    ·rw [if_pos c11] at H
     obtain ⟨c11b0, c11b1⟩ := eqT c11
     clear c11
     by_cases c12 : a0_7.toList = a1_7.toList
     ·rw [if_pos c12] at H
      obtain ⟨c12b0, c12b1⟩ := eqT c12
      clear c12
      replace H := Option.bind_eq_some_iff.mp H
      obtain ⟨t375, A130, H⟩ := H
      try dsimp only at H
      have A13 := Aside0.mk A130
      clear A130
      have hnb14 := NB373_374.out
      have hnc14 := NB374_373.out
      obtain ⟨hcz15_0, hcz15_1, hcz15_2, hcz15_3, hcz15_4, hcz15_5, hcz15_6, hcz15_7⟩ := bc8 BK373.out
      obtain ⟨hcz16_0, hcz16_1, hcz16_2, hcz16_3, hcz16_4, hcz16_5, hcz16_6, hcz16_7⟩ := bc8 BK374.out
      go_wp2_with (first | (go_at_call 87; (with_reducible refine (impl_Decl_87.calls k _ _ l0_4 _ _ l1_4 t375 _ ?side1 ?side2 ?side3 ?side4 A13.out).mono ?_); (case side1 => repeat (first | exact (Kd.C_below HR0_4.out HB.out) | (with_reducible refine Kd.C_alloc ?_ _) | (with_reducible refine Kd.C_drewN ?_ _) | (with_reducible refine Kd.C_drew ?_))); (case side2 => exact HC0_4.out); (case side3 => repeat (first | exact (Kd.C_below HR1_4.out HB.out) | (with_reducible refine Kd.C_alloc ?_ _) | (with_reducible refine Kd.C_drewN ?_ _) | (with_reducible refine Kd.C_drew ?_))); (case side4 => exact HC1_4.out); rintro e w' ⟨rfl, ⟨nd, rfl⟩⟩; refine halt_ ?_; intro q_ hq_))
      obtain ⟨rfl⟩ := hq_
      by_cases c17 : t375 = true
      ·subst c17
       rw [if_pos rfl] at H
       replace H := Option.bind_eq_some_iff.mp H
       obtain ⟨t376, A180, H⟩ := H
       try dsimp only at H
       have A18 := Aside0.mk A180
       clear A180
       obtain rfl := Option.some.inj H
       have hnb19 := NB373_374.out
       have hnc19 := NB374_373.out
       obtain ⟨hcz20_0, hcz20_1, hcz20_2, hcz20_3, hcz20_4, hcz20_5, hcz20_6, hcz20_7⟩ := bc8 BK373.out
       obtain ⟨hcz21_0, hcz21_1, hcz21_2, hcz21_3, hcz21_4, hcz21_5, hcz21_6, hcz21_7⟩ := bc8 BK374.out
       go_wp2_with (first | (go_at_call 88; (with_reducible refine (impl_Attr_88.calls k _ _ l0_5 _ _ l1_5 t376 _ ?side1 ?side2 ?side3 ?side4 A18.out).mono ?_); (case side1 => repeat (first | exact (Kd.C_below HR0_5.out HB.out) | (with_reducible refine Kd.C_alloc ?_ _) | (with_reducible refine Kd.C_drewN ?_ _) | (with_reducible refine Kd.C_drew ?_))); (case side2 => exact HC0_5.out); (case side3 => repeat (first | exact (Kd.C_below HR1_5.out HB.out) | (with_reducible refine Kd.C_alloc ?_ _) | (with_reducible refine Kd.C_drewN ?_ _) | (with_reducible refine Kd.C_drew ?_))); (case side4 => exact HC1_5.out); rintro e w' ⟨rfl, ⟨nd, rfl⟩⟩))
       go_ret
       exact ⟨rE, hB⟩
      ·replace c17 := Bool.eq_false_iff.mpr c17
       subst c17
       rw [if_neg (show ¬ (false = true) by decide)] at H
       obtain rfl := Option.some.inj H
       go_wp2
       go_ret
       exact ⟨rE, hB⟩
     ·rw [if_neg c12] at H
      obtain ⟨c12b0, c12b1⟩ := eqF c12
      obtain rfl := Option.some.inj H
      have hnb22 := NB373_374.out
      have hnc22 := NB374_373.out
      obtain ⟨hcz23_0, hcz23_1, hcz23_2, hcz23_3, hcz23_4, hcz23_5, hcz23_6, hcz23_7⟩ := bc8 BK373.out
      obtain ⟨hcz24_0, hcz24_1, hcz24_2, hcz24_3, hcz24_4, hcz24_5, hcz24_6, hcz24_7⟩ := bc8 BK374.out
      go_wp2
      go_ret
      exact ⟨rE, hB⟩
    ·rw [if_neg c11] at H
     obtain ⟨c11b0, c11b1⟩ := eqF c11
     obtain rfl := Option.some.inj H
     have hnb25 := NB373_374.out
     have hnc25 := NB374_373.out
     obtain ⟨hcz26_0, hcz26_1, hcz26_2, hcz26_3, hcz26_4, hcz26_5, hcz26_6, hcz26_7⟩ := bc8 BK373.out
     obtain ⟨hcz27_0, hcz27_1, hcz27_2, hcz27_3, hcz27_4, hcz27_5, hcz27_6, hcz27_7⟩ := bc8 BK374.out
     go_wp2
     go_ret
     exact ⟨rE, hB⟩
   ·rw [if_neg c10] at H
    obtain ⟨c10b0, c10b1⟩ := eqF c10
    obtain rfl := Option.some.inj H
    have hnb28 := NB373_374.out
    have hnc28 := NB374_373.out
    obtain ⟨hcz29_0, hcz29_1, hcz29_2, hcz29_3, hcz29_4, hcz29_5, hcz29_6, hcz29_7⟩ := bc8 BK373.out
    obtain ⟨hcz30_0, hcz30_1, hcz30_2, hcz30_3, hcz30_4, hcz30_5, hcz30_6, hcz30_7⟩ := bc8 BK374.out
    go_wp2
    go_ret
    exact ⟨rE, hB⟩
  ·rw [if_neg c9] at H
   obtain ⟨c9b0, c9b1⟩ := eqF c9
   obtain rfl := Option.some.inj H
   have hnb31 := NB373_374.out
   have hnc31 := NB374_373.out
   obtain ⟨hcz32_0, hcz32_1, hcz32_2, hcz32_3, hcz32_4, hcz32_5, hcz32_6, hcz32_7⟩ := bc8 BK373.out
   obtain ⟨hcz33_0, hcz33_1, hcz33_2, hcz33_3, hcz33_4, hcz33_5, hcz33_6, hcz33_7⟩ := bc8 BK374.out
   go_wp2
   go_ret
   exact ⟨rE, hB⟩
 ·rw [if_neg c8] at H
  obtain ⟨c8b0, c8b1⟩ := eqF c8
  obtain rfl := Option.some.inj H
  go_wp2
  go_ret
  exact ⟨rE, hB⟩

/-! ### impl_Node: function 83 -/
/-- A node as a value; its rows are read in w. -/
def impl_Node.NV (w : World) (x : S34) (v : Value) : Prop := ∃ (A4 : Option Addr) (c4 : Nat) (A5 : Option Addr) (c5 : Nat) (A6 : Option Addr) (c6 : Nat), v = .agg #[.int .i64 x.f0, .string x.f1, .string x.f2, .string x.f3, .slice A4 x.f4.length c4, .slice A5 x.f5.length c5, .slice A6 x.f6.length c6, .string x.f7] ∧
  x.f4.length ≤ c4 ∧ Kd.C k88 w A4 x.f4.length x.f4 ∧ x.f5.length ≤ c5 ∧ Kd.C k90 w A5 x.f5.length x.f5 ∧ x.f6.length ≤ c6 ∧ Kd.C k34 w A6 x.f6.length x.f6
theorem impl_Node.rd_in (l0 : List S34) (i : Nat) (h : i < l0.length) : rd_T34 l0 (i : Int) = l0[i] := by simp [rd_T34, List.getD_eq_getElem?_getD, List.getElem?_eq_getElem h]
def impl_Node.all (p : S34 → S34 → Option Bool) : List S34 → List S34 → Option Bool
  | x :: xs, y :: ys => (p x y).bind fun b => if b = true then impl_Node.all p xs ys else some false
  | _, _ => some true
def impl_Node.f (p : S34 → S34 → Option Bool) (l m : List S34) : Option Bool := if l.length = m.length then impl_Node.all p l m else some false
theorem impl_Node.mono (p q : S34 → S34 → Option Bool) (h : ∀ x y, LeO (p x y) (q x y)) : ∀ l m, LeO (impl_Node.all p l m) (impl_Node.all q l m)
  | [], _ => by simp only [impl_Node.all]; exact LeO.refl _
  | _ :: _, [] => by simp only [impl_Node.all]; exact LeO.refl _
  | x :: xs, y :: ys => by
    simp only [impl_Node.all]
    refine LeO.bind (h x y) (fun _ => LeO.ite (impl_Node.mono p q h xs ys) (LeO.refl _))
theorem impl_Node.monof (p q : S34 → S34 → Option Bool) (h : ∀ x y, LeO (p x y) (q x y)) (l m) : LeO (impl_Node.f p l m) (impl_Node.f q l m) := by
  unfold impl_Node.f
  exact LeO.ite (impl_Node.mono p q h l m) (LeO.refl _)
set_option maxHeartbeats 4000000 in
set_option maxRecDepth 100000 in
theorem impl_Node.calls (p : S34 → S34 → Option Bool) (g : Nat) (lb : Array Value) (eg : ∀ args w, (callFunc g args).run Try.prog w = .ok (.enter g args) w) (A0 : Option Addr) (c0 : Nat) (l0 : List S34) (A1 : Option Addr) (c1 : Nat) (l1 : List S34) (b : Bool) (w : World)
    (hp : ∀ (W : World) (x y : S34) (v u : Value) (b : Bool), x ∈ l0 → y ∈ l1 → p x y = some b → impl_Node.NV W x v → impl_Node.NV W y u → Below w.heap.size w W → Calls Try.prog g (#[v, u] ++ lb) W fun e w' => e = .returned (.bool b) ∧ Below W.heap.size W w')
    (hr0 : Kd.C k34 w A0 l0.length l0) (hr1 : Kd.C k34 w A1 l1.length l1) (h : impl_Node.f p l0 l1 = some b) :
    Calls Try.prog 83 #[.slice A0 l0.length c0, .slice A1 l1.length c1, .func (.func g) #[] lb] w fun e w' => e = .returned (.bool b) ∧ Below w.heap.size w w' := by
  have hl0 : l0.length ≤ 9223372036854775807 := hr0.2.1
  have hl1 : l1.length ≤ 9223372036854775807 := hr1.2.1
  have HR0 := Aside0.mk hr0
  have HR1 := Aside0.mk hr1
  have HP := Aside0.mk hp
  clear hr0 hr1 hp
  have hu := Try.underlying34
  unfold impl_Node.f at h
  by_cases hlen : l0.length = l1.length
  · rw [if_pos hlen] at h
    have H := Aside0.mk h
    clear h
    have hne : ((l0.length : Int) != (l1.length : Int)) = false := by simp [hlen]
    have HN := Aside0.mk hlen
    have hle : l0.length ≤ l1.length := by omega
    clear hlen
    go_enter Try.func83, Try.ntmps83
    go_wp2
    go_loopg [17] l0.length (fun gg s17 wr => ∃ kk : Nat, kk ≤ l0.length ∧ l0.length - kk ≤ gg ∧ s17 = .int .i64 kk ∧ Aside0 (Below w.heap.size w wr) ∧ Aside0 (impl_Node.all p (l0.drop kk) (l1.drop kk) = some b))
    case atStart => exact ⟨0, Nat.zero_le _, by omega, rfl, ⟨Below.refl _ w⟩, ⟨by simpa using H.out⟩⟩
    case round =>
      obtain ⟨kk, hkk, hg, rfl, BW, A⟩ := hrel
      by_cases hlt : kk < l0.length
      · have hltz : (kk : Int) < (l0.length : Int) := by omega
        have hlt1 : kk < l1.length := by omega
        have hltz1 : (kk : Int) < (l1.length : Int) := by omega
        have hA := A.out
        rw [List.drop_eq_getElem_cons hlt, List.drop_eq_getElem_cons hlt1] at hA
        simp only [impl_Node.all] at hA
        obtain ⟨q, hq, hA⟩ := Option.bind_eq_some_iff.1 hA
        obtain ⟨ada, A4a, c4a, A5a, c5a, A6a, c6a, eada, z0a, z1a, z2a, z3a, z4a, z5a, z6a, z7a, q4a, r4a, q5a, r5a, q6a, r6a⟩ := at_T34 (Kd.C_below HR0.out BW.out) (kk : Int) (by omega) (by omega)
        obtain ⟨adb, A4b, c4b, A5b, c5b, A6b, c6b, eadb, z0b, z1b, z2b, z3b, z4b, z5b, z6b, z7b, q4b, r4b, q5b, r5b, q6b, r6b⟩ := at_T34 (Kd.C_below HR1.out BW.out) (kk : Int) (by omega) (by omega)
        have hcall := fun (W : World) (hW : Below w.heap.size w W) (hV : impl_Node.NV W (rd_T34 l0 (kk : Int)) _) (hU : impl_Node.NV W (rd_T34 l1 (kk : Int)) _) => HP.out W (rd_T34 l0 (kk : Int)) (rd_T34 l1 (kk : Int)) (.agg #[.int .i64 (rd_T34 l0 (kk : Int)).f0, .string (rd_T34 l0 (kk : Int)).f1, .string (rd_T34 l0 (kk : Int)).f2, .string (rd_T34 l0 (kk : Int)).f3, .slice A4a (rd_T34 l0 (kk : Int)).f4.length c4a, .slice A5a (rd_T34 l0 (kk : Int)).f5.length c5a, .slice A6a (rd_T34 l0 (kk : Int)).f6.length c6a, .string (rd_T34 l0 (kk : Int)).f7]) (.agg #[.int .i64 (rd_T34 l1 (kk : Int)).f0, .string (rd_T34 l1 (kk : Int)).f1, .string (rd_T34 l1 (kk : Int)).f2, .string (rd_T34 l1 (kk : Int)).f3, .slice A4b (rd_T34 l1 (kk : Int)).f4.length c4b, .slice A5b (rd_T34 l1 (kk : Int)).f5.length c5b, .slice A6b (rd_T34 l1 (kk : Int)).f6.length c6b, .string (rd_T34 l1 (kk : Int)).f7]) q (by rw [impl_Node.rd_in l0 kk hlt]; exact List.getElem_mem hlt) (by rw [impl_Node.rd_in l1 kk hlt1]; exact List.getElem_mem hlt1) (by rw [impl_Node.rd_in l0 kk hlt, impl_Node.rd_in l1 kk hlt1]; exact hq) hV hU hW
        replace hcall := fun (W : World) (hW : Below wr.heap.size wr W) => hcall W (BW.out.trans (hW.mono BW.out.size)) ⟨A4a, c4a, A5a, c5a, A6a, c6a, rfl, q4a, Kd.C_below r4a hW, q5a, Kd.C_below r5a hW, q6a, Kd.C_below r6a hW⟩ ⟨A4b, c4b, A5b, c5b, A6b, c6b, rfl, q4b, Kd.C_below r4b hW, q5b, Kd.C_below r5b hW, q6b, Kd.C_below r6b hW⟩
        simp only [Int.toNat_natCast] at z0a z1a z2a z3a z4a z5a z6a z7a z0b z1b z2b z3b z4b z5b z6b z7b
        cases eada
        cases eadb
        have hz := fun (W : World) (hW : Below wr.heap.size wr W) => (⟨pw_cell_below hW z0b, pw_cell_below hW z1b, pw_cell_below hW z2b, pw_cell_below hW z3b, pw_cell_below hW z4b, pw_cell_below hW z5b, pw_cell_below hW z6b, pw_cell_below hW z7b⟩ : _ ∧ _ ∧ _ ∧ _ ∧ _ ∧ _ ∧ _ ∧ _)
        clear A hq
        have HA := Aside0.mk hA
        have HZ := Aside0.mk hz
        have HC := Aside0.mk hcall
        clear hA hz hcall
        generalize hd : rd_T34 l0 (kk : Int) = d at HC z0a z1a z2a z3a z4a z5a z6a z7a
        generalize hd2 : rd_T34 l1 (kk : Int) = d2 at HC HZ z0b z1b z2b z3b z4b z5b z6b z7b
        clear hd hd2
        obtain ⟨y0, y1, y2, y3, y4, y5, y6, y7⟩ := HZ.out (wr.alloc (.cells #[.int .i64 d.f0, .string d.f1, .string d.f2, .string d.f3, .slice A4a d.f4.length c4a, .slice A5a d.f5.length c5a, .slice A6a d.f6.length c6a, .string d.f7] 34)) (below_alloc (Below.refl _ _) _)
        clear z0b z1b z2b z3b z4b z5b z6b z7b
        cases q with
        | true =>
          go_wp2_with (go_at_fn g; refine (HC.out _ ?a1).mono ?_; (case a1 => exact below_alloc (below_alloc (Below.refl _ _) _) _); rintro e w' ⟨rfl, hb'⟩; have hB := below_then (below_alloc (below_alloc BW.out _) _) (by have := BW.out.size; simp; omega) hb')
          go_roundg (l0.length - (kk + 1))
          case measure => omega
          case rel => exact ⟨kk + 1, by omega, by omega, by go_num, ⟨hB⟩, ⟨by simpa using HA.out⟩⟩
        | false =>
          go_wp2_with (go_at_fn g; refine (HC.out _ ?a1).mono ?_; (case a1 => exact below_alloc (below_alloc (Below.refl _ _) _) _); rintro e w' ⟨rfl, hb'⟩; have hB := below_then (below_alloc (below_alloc BW.out _) _) (by have := BW.out.size; simp; omega) hb')
          go_ret
          refine ⟨?_, hB⟩
          have := HA.out
          simp at this
          subst this
          rfl
      · have hltz : ¬ (kk : Int) < (l0.length : Int) := by omega
        have : kk = l0.length := by omega
        subst this
        go_wp2
        go_ret
        refine ⟨?_, BW.out⟩
        have hA := A.out
        rw [List.drop_length, HN.out, List.drop_length] at hA
        simp only [impl_Node.all] at hA
        cases hA
        rfl
  · rw [if_neg hlen] at h
    cases h
    have hne : ((l0.length : Int) != (l1.length : Int)) = true := by simpa using fun e => hlen (by omega)
    have hne2 : ¬ (l0.length : Int) = (l1.length : Int) := by omega
    go_enter Try.func83, Try.ntmps83
    go_wp2
    go_ret
    exact ⟨rfl, Below.refl _ _⟩

/-! ### impl_SameNode: function 61 -/
def impl_SameNode.f : Nat → Int → ByteArray → ByteArray → ByteArray → List (S88) → List (S90) → List (S34) → ByteArray → Int → ByteArray → ByteArray → ByteArray → List (S88) → List (S90) → List (S34) → ByteArray → Option Bool
  | 0, _, _, _, _, _, _, _, _, _, _, _, _, _, _, _, _ => none
  | k + 1, a0_0, a0_1, a0_2, a0_3, l0_4, l0_5, l0_6, a0_7, a1_0, a1_1, a1_2, a1_3, l1_4, l1_5, l1_6, a1_7 => (impl_sameAlone.f k a0_0 a0_1 a0_2 a0_3 l0_4 l0_5 l0_6 a0_7 a1_0 a1_1 a1_2 a1_3 l1_4 l1_5 l1_6 a1_7).bind fun t => if t = true then impl_Node.f (fun x y => impl_SameNode.f k x.f0 x.f1 x.f2 x.f3 x.f4 x.f5 x.f6 x.f7 y.f0 y.f1 y.f2 y.f3 y.f4 y.f5 y.f6 y.f7) l0_6 l1_6 else some false
set_option maxHeartbeats 4000000 in
set_option maxRecDepth 100000 in
theorem impl_SameNode.calls (k : Nat) : ∀ (a0_0 : Int) (a0_1 : ByteArray) (a0_2 : ByteArray) (a0_3 : ByteArray) (A0_4 : Option Addr) (c0_4 : Nat) (l0_4 : List (S88)) (A0_5 : Option Addr) (c0_5 : Nat) (l0_5 : List (S90)) (A0_6 : Option Addr) (c0_6 : Nat) (l0_6 : List (S34)) (a0_7 : ByteArray) (a1_0 : Int) (a1_1 : ByteArray) (a1_2 : ByteArray) (a1_3 : ByteArray) (A1_4 : Option Addr) (c1_4 : Nat) (l1_4 : List (S88)) (A1_5 : Option Addr) (c1_5 : Nat) (l1_5 : List (S90)) (A1_6 : Option Addr) (c1_6 : Nat) (l1_6 : List (S34)) (a1_7 : ByteArray) (r : Bool) (w : World) (hr0_4 : Kd.C k88 w A0_4 l0_4.length l0_4) (hc0_4 : l0_4.length ≤ c0_4) (hr0_5 : Kd.C k90 w A0_5 l0_5.length l0_5) (hc0_5 : l0_5.length ≤ c0_5) (hr0_6 : Kd.C k34 w A0_6 l0_6.length l0_6) (hc0_6 : l0_6.length ≤ c0_6) (hr1_4 : Kd.C k88 w A1_4 l1_4.length l1_4) (hc1_4 : l1_4.length ≤ c1_4) (hr1_5 : Kd.C k90 w A1_5 l1_5.length l1_5) (hc1_5 : l1_5.length ≤ c1_5) (hr1_6 : Kd.C k34 w A1_6 l1_6.length l1_6) (hc1_6 : l1_6.length ≤ c1_6) (h : impl_SameNode.f k a0_0 a0_1 a0_2 a0_3 l0_4 l0_5 l0_6 a0_7 a1_0 a1_1 a1_2 a1_3 l1_4 l1_5 l1_6 a1_7 = some r),
    Calls Try.prog 61 #[.agg #[.int .i64 a0_0, .string a0_1, .string a0_2, .string a0_3, .slice A0_4 l0_4.length c0_4, .slice A0_5 l0_5.length c0_5, .slice A0_6 l0_6.length c0_6, .string a0_7], .agg #[.int .i64 a1_0, .string a1_1, .string a1_2, .string a1_3, .slice A1_4 l1_4.length c1_4, .slice A1_5 l1_5.length c1_5, .slice A1_6 l1_6.length c1_6, .string a1_7]] w fun e w' => e = .returned (.bool r) ∧ Below w.heap.size w w' := by
  induction k with
  | zero => intro a0_0 a0_1 a0_2 a0_3 A0_4 c0_4 l0_4 A0_5 c0_5 l0_5 A0_6 c0_6 l0_6 a0_7 a1_0 a1_1 a1_2 a1_3 A1_4 c1_4 l1_4 A1_5 c1_5 l1_5 A1_6 c1_6 l1_6 a1_7 r w hr0_4 hc0_4 hr0_5 hc0_5 hr0_6 hc0_6 hr1_4 hc1_4 hr1_5 hc1_5 hr1_6 hc1_6 h; exact absurd h (by simp [impl_SameNode.f])
  | succ k ih =>
  intro a0_0 a0_1 a0_2 a0_3 A0_4 c0_4 l0_4 A0_5 c0_5 l0_5 A0_6 c0_6 l0_6 a0_7 a1_0 a1_1 a1_2 a1_3 A1_4 c1_4 l1_4 A1_5 c1_5 l1_5 A1_6 c1_6 l1_6 a1_7 r w hr0_4 hc0_4 hr0_5 hc0_5 hr0_6 hc0_6 hr1_4 hc1_4 hr1_5 hc1_5 hr1_6 hc1_6 h
  simp only [impl_SameNode.f] at h
  obtain ⟨t, ht, h⟩ := Option.bind_eq_some_iff.1 h
  have hA := fun (W : World) (hW : Below w.heap.size w W) => impl_sameAlone.calls k a0_0 a0_1 a0_2 a0_3 A0_4 c0_4 l0_4 A0_5 c0_5 l0_5 A0_6 c0_6 l0_6 a0_7 a1_0 a1_1 a1_2 a1_3 A1_4 c1_4 l1_4 A1_5 c1_5 l1_5 A1_6 c1_6 l1_6 a1_7 t W (Kd.C_below hr0_4 hW) hc0_4 (Kd.C_below hr0_5 hW) hc0_5 (Kd.C_below hr0_6 hW) hc0_6 (Kd.C_below hr1_4 hW) hc1_4 (Kd.C_below hr1_5 hW) hc1_5 (Kd.C_below hr1_6 hW) hc1_6 ht
  have eg : ∀ args w, (callFunc 61 args).run Try.prog w = .ok (.enter 61 args) w := enters_of Try.func61 (by kernel_rfl) rfl
  have hu := Try.underlying34
  have HA := Aside0.mk hA
  cases t with
  | false =>
    simp at h
    subst h
    clear hA ht ih hr0_4 hc0_4 hr0_5 hc0_5 hr0_6 hc0_6 hr1_4 hc1_4 hr1_5 hc1_5 hr1_6 hc1_6
    go_enter Try.func61, Try.ntmps61
    go_wp2_with (go_at_call 82; refine (HA.out _ ?a1).mono ?_; (case a1 => exact below_alloc (below_alloc (Below.refl _ _) _) _); rintro e w' ⟨rfl, hb⟩; have hB := below_then (below_alloc (below_alloc (Below.refl w.heap.size w) _) _) (by simp; omega) hb)
    go_ret
    exact ⟨rfl, hB⟩
  | true =>
    simp only [if_true] at h
    have hE := fun (W : World) (hW : Below w.heap.size w W) => impl_Node.calls (fun x y => impl_SameNode.f k x.f0 x.f1 x.f2 x.f3 x.f4 x.f5 x.f6 x.f7 y.f0 y.f1 y.f2 y.f3 y.f4 y.f5 y.f6 y.f7) 61 #[] eg A0_6 c0_6 l0_6 A1_6 c1_6 l1_6 r W
      (fun W2 x y v u b hx hy hp hv hu hb2 => by
        obtain ⟨B4, d4, B5, d5, B6, d6, rfl, q4, r4, q5, r5, q6, r6⟩ := hv
        obtain ⟨E4, e4, E5, e5, E6, e6, rfl, s4, t4, s5, t5, s6, t6⟩ := hu
        exact ih _ _ _ _ _ _ _ _ _ _ _ _ _ _ _ _ _ _ _ _ _ _ _ _ _ _ _ _ b W2 r4 q4 r5 q5 r6 q6 t4 s4 t5 s5 t6 s6 hp) (Kd.C_below hr0_6 hW) (Kd.C_below hr1_6 hW) h
    have HE := Aside0.mk hE
    clear hA hE ht h ih hr0_4 hc0_4 hr0_5 hc0_5 hr0_6 hc0_6 hr1_4 hc1_4 hr1_5 hc1_5 hr1_6 hc1_6
    go_enter Try.func61, Try.ntmps61
    go_wp2_with (first | (go_at_call 82; refine (HA.out _ ?a1).mono ?_; (case a1 => exact below_alloc (below_alloc (Below.refl _ _) _) _); rintro e w' ⟨rfl, hb⟩; have hB := below_then (below_alloc (below_alloc (Below.refl w.heap.size w) _) _) (by simp; omega) hb; have HB := Aside0.mk hB; have hk0 := pw_cell_below hb (show World.cell? ((w.alloc (.cells #[.int .i64 a0_0, .string a0_1, .string a0_2, .string a0_3, .slice A0_4 l0_4.length c0_4, .slice A0_5 l0_5.length c0_5, .slice A0_6 l0_6.length c0_6, .string a0_7] 34)).alloc (.cells #[.int .i64 a1_0, .string a1_1, .string a1_2, .string a1_3, .slice A1_4 l1_4.length c1_4, .slice A1_5 l1_5.length c1_5, .slice A1_6 l1_6.length c1_6, .string a1_7] 34)) ⟨w.heap.size, 6, none⟩ = some (.slice A0_6 l0_6.length c0_6) from by rw [World.cell?_alloc_past _ _ _ (by simp), World.cell?_alloc_at _ _ _ _ rfl]; rfl); have hk1 := pw_cell_below hb (show World.cell? ((w.alloc (.cells #[.int .i64 a0_0, .string a0_1, .string a0_2, .string a0_3, .slice A0_4 l0_4.length c0_4, .slice A0_5 l0_5.length c0_5, .slice A0_6 l0_6.length c0_6, .string a0_7] 34)).alloc (.cells #[.int .i64 a1_0, .string a1_1, .string a1_2, .string a1_3, .slice A1_4 l1_4.length c1_4, .slice A1_5 l1_5.length c1_5, .slice A1_6 l1_6.length c1_6, .string a1_7] 34)) ⟨w.heap.size + 1, 6, none⟩ = some (.slice A1_6 l1_6.length c1_6) from by rw [World.cell?_alloc_at _ _ _ _ (by simp)]; rfl)) | (go_at_call 83; refine (HE.out _ HB.out).mono ?_; rintro e w2 ⟨rfl, hb2⟩))
    go_ret
    exact ⟨rfl, HB.out.trans (hb2.mono HB.out.size)⟩

end Go.Proofs.Ytdbinpeglamnnaa.PM
