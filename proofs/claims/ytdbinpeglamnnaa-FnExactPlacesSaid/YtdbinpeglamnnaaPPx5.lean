-- Written by the session's program hprint.py, over the kit's print program. Lean checks it.
import Derived.Test.YtdbinpeglamnnaaPPx0
import Derived.Test.YtdbinpeglamnnaaPPx1
import Derived.Test.YtdbinpeglamnnaaPPx4
namespace Go.Proofs.Ytdbinpeglamnnaa.PP
open Go.RowKit Go.Proofs.YtdbinpeglamnnaaW.PrintWords Go.Proofs.YtdbinpeglamnnaaW.PrintLast Go.Proofs.YtdbinpeglamnnaaW.PrintMore
attribute [local go_sem] max2_int min2_int max_two min_two max_three min_three max_four min_four   -- for this text's walks alone
set_option linter.unusedVariables false
set_option linter.unusedSimpArgs false
set_option maxHeartbeats 8000000
set_option maxRecDepth 100000

/-! ### laws_markNodeS: function 22 -/
def laws_markNodeS.node (G : List S34 → Int → Option (Int × List S34)) (k : Nat) (x : S34) (a : Int) : Option (Int × S34) :=
  (laws_markText.f k (wrap64 (a + 1))).bind fun t1 => (laws_markText.f k (wrap64 ((wrap64 (a + 1)) + 1))).bind fun t2 => (laws_markText.f k (wrap64 ((wrap64 ((wrap64 (a + 1)) + 1)) + 1))).bind fun t3 => (laws_markDeclS.f k x.f4 (wrap64 ((wrap64 ((wrap64 ((wrap64 (a + 1)) + 1)) + 1)) + 1))).bind fun d => (laws_markAttrS.f k x.f5 d.1).bind fun t => (G x.f6 t.1).bind fun c => (laws_markText.f k c.1).bind fun t7 => some (wrap64 (c.1 + 1), ⟨a, t1, t2, t3, d.2, t.2, c.2, t7⟩)
def laws_markNodeS.go (G : List S34 → Int → Option (Int × List S34)) (k : Nat) : List S34 → Int → Option (Int × List S34)
  | [], a => some (a, [])
  | x :: xs, a => (laws_markNodeS.node G k x a).bind fun p => (laws_markNodeS.go G k xs p.1).bind fun q => some (q.1, p.2 :: q.2)
def laws_markNodeS.f : Nat → List S34 → Int → Option (Int × List S34)
  | 0, _, _ => none
  | k + 1, xs, a => if xs.length < 4611686018427387904 then laws_markNodeS.go (laws_markNodeS.f k) k xs a else none
set_option maxRecDepth 100000 in
set_option maxHeartbeats 4000000 in
theorem laws_markNodeS.calls (k : Nat) : ∀ (P : Nat → Prop) (u : Value) (l0 : List S34) (a1 r1 : Int) (r2 : List S34) (w0 w : World) (hB : Below w0.heap.size w0 w) (ho : Kd.S kD 34 w w0.heap.size P u l0) (h : laws_markNodeS.f k l0 a1 = some (r1, r2)),
    Calls Try.prog 22 #[u, .int .i64 a1] w fun e w' => e = .returned (.int .i64 r1) ∧ Kd.S kD 34 w' w0.heap.size P u r2 ∧ Below w0.heap.size w0 w' ∧ Kept w w' P := by
  induction k with
  | zero => intro P u l0 a1 r1 r2 w0 w hB ho h; exact absurd h (by simp [laws_markNodeS.f])
  | succ k ih =>
  intro P u l0 a1 r1 r2 w0 w hB ho h
  simp only [laws_markNodeS.f] at h
  obtain ⟨hz, h⟩ := if_som h
  have IH := Aside0.mk ih
  obtain ⟨A, c, rfl, -, -⟩ := Kd.S_reads ho
  have HS := Aside0.mk ho
  have HB := Aside0.mk hB
  have HH := Aside0.mk h
  clear ih hB ho h
  go_enter Try.func22, Try.ntmps22
  go_wp2
  go_loopg [1, 5] l0.length (fun gg s1 s5 wr => ∃ (ys zs : List S34) (a : Int) (q : List S34), ys.length + zs.length = l0.length ∧ zs.length ≤ gg ∧ s1 = .int .i64 a ∧ s5 = .int .i64 (ys.length : Int) ∧ Aside0 (laws_markNodeS.go (laws_markNodeS.f k) k zs a = some (r1, q)) ∧ Aside0 (r2 = ys ++ q) ∧ Aside0 (Kd.S kD 34 wr w0.heap.size P (.slice A l0.length c) (ys ++ zs)) ∧ Aside0 (Below w0.heap.size w0 wr) ∧ Aside0 (Kept w wr P))
  case atStart => exact ⟨[], l0, a1, r2, by simp, Nat.le_refl _, rfl, rfl, HH, ⟨rfl⟩, ⟨HS.out⟩, ⟨HB.out⟩, ⟨Kept.refl _ _⟩⟩
  case round =>
    clear HH HS HB
    obtain ⟨ys, zs, a, q, hlen, hg, rfl, rfl, HH, HQ, HS, HB, HK⟩ := hrel
    cases zs with
    | nil =>
      have hlt : ¬ (ys.length : Int) < (l0.length : Int) := by simp at hlen; omega
      obtain ⟨rfl, rfl⟩ : a = r1 ∧ q = [] := by have := HH.out; simp only [laws_markNodeS.go, Option.some.injEq, Prod.mk.injEq] at this; exact ⟨this.1, this.2.symm⟩
      rw [List.append_nil] at HS HQ
      obtain rfl := HQ.out
      go_wp2
      go_ret
      exact ⟨rfl, HS.out, HB.out, HK.out⟩
    | cons x zs =>
      rw [List.length_cons] at hlen hg
      have hlt : (ys.length : Int) < (l0.length : Int) := by omega
      have hl0 : (0 : Int) ≤ (ys.length : Int) := by omega
      have HL := Aside0.mk (show ys.length < l0.length by omega)
      obtain ⟨f0, f1, f2, f3, f4, f5, f6, f7⟩ := x
      obtain ⟨p, hp1, h2⟩ := Option.bind_eq_some_iff.1 (show (laws_markNodeS.node (laws_markNodeS.f k) k ⟨f0, f1, f2, f3, f4, f5, f6, f7⟩ a).bind _ = some (r1, q) from HH.out)
      obtain ⟨q', hq, h3⟩ := Option.bind_eq_some_iff.1 h2
      simp only [Option.some.injEq, Prod.mk.injEq] at h3
      obtain ⟨h31, rfl⟩ := h3
      obtain ⟨t1, ht1, hp2⟩ := Option.bind_eq_some_iff.1 hp1
      obtain ⟨t2, ht2, hp3⟩ := Option.bind_eq_some_iff.1 hp2
      obtain ⟨t3, ht3, hp4⟩ := Option.bind_eq_some_iff.1 hp3
      obtain ⟨⟨d1, d2⟩, hd, hp5⟩ := Option.bind_eq_some_iff.1 hp4
      obtain ⟨⟨e1, e2⟩, ht, hp6⟩ := Option.bind_eq_some_iff.1 hp5
      obtain ⟨⟨c1, c2⟩, hcc, hp7⟩ := Option.bind_eq_some_iff.1 hp6
      obtain ⟨t7, ht7, hp8⟩ := Option.bind_eq_some_iff.1 hp7
      clear hp1 hp2 hp3 hp4 hp5 hp6 hp7
      cases hp8
      have T1 := Aside0.mk ht1
      have T2 := Aside0.mk ht2
      have T3 := Aside0.mk ht3
      have T7 := Aside0.mk ht7
      have TD := Aside0.mk hd
      have TT := Aside0.mk ht
      have TC := Aside0.mk hcc
      have HR := Aside0.mk (show laws_markNodeS.go (laws_markNodeS.f k) k zs (wrap64 (c1 + 1)) = some (r1, q'.2) by rw [← h31]; exact hq)
      clear HH h2 hq h31 ht1 ht2 ht3 ht7 hd ht hcc
      obtain ⟨g, cap, eg, hg0, -, -⟩ := Kd.S_form HS.out (by simp; omega)
      injection eg with eA eN eC
      subst eA
      have HG := Aside0.mk hg0
      have HP0 := Aside0.mk ((Kd.S_R HS.out).1 g rfl)
      have HLEN := Aside0.mk (And.intro hlen hg)
      clear hg0 eC eN hlen hg
      obtain ⟨oki, v4, v5, v6, o6, hc, hf, hD, hk, hH⟩ := kD_elem HS.out
      have hx := hc 0 _ rfl
      have hy := hf 0
      have HP := Aside0.mk (kD_put hH hD hk HL.out 0 (.int .i64 a) rfl (by decide) ⟨a, f1, f2, f3, f4, f5, f6, f7⟩ rfl rfl rfl rfl)
      rw [Nat.add_zero] at hx hy HP
      clear hc hf hD hk hH
      go_wp2_with (first
        | ((with_reducible refine gate_store (t := 3) (p := 16) rfl ?_); refine store_event (t := 3) (p := 16) (v := ?vo_wr) (w1 := (wr.setCell ⟨g, ys.length * 8, none⟩ (.int .i64 a))) ?hg ?ho ?hn ?hr ?_; (case ho => rfl); (case hg => rfl); (case hn => rfl); (case hr => first | (go_simp; done) | (go_simp; rfl)); intro wrx hw; replace HS := Aside0.mk (show Kd.S kD 34 wrx _ _ _ _ by rw [hw]; exact HP.out.1); replace HB := Aside0.mk (show Below w0.heap.size w0 wrx by rw [hw]; exact below_set HB.out HG.out); replace HK := Aside0.mk (Kept.of_grown (show wr.grownBy wrx (some g) by rw [hw]; exact HP.out.2) HK.out (fun k_ e_ => .inl (by injection e_ with e_; exact e_ ▸ HP0.out))); clear HP hx hy hw)
        | (go_at_call 48; (with_reducible refine (laws_markText.calls k (wrap64 (a + 1)) t1 _ T1.out).mono ?_); rintro e wb ⟨rfl, hb⟩; replace HS := Aside0.mk (Kd.S_below HS.out hb); replace HK := Aside0.mk (Kept.below HK.out hb); replace HB := Aside0.mk (below_step HB.out hb); clear hb; obtain ⟨oki, v4, v5, v6, o6, hc, hf, hD, hk, hH⟩ := kD_elem HS.out; have hx := hc 1 _ rfl; have hy := hf 1; have HP := Aside0.mk (kD_put hH hD hk HL.out 1 (.string t1) rfl (by decide) ⟨a, t1, f2, f3, f4, f5, f6, f7⟩ rfl rfl rfl rfl); clear hc hf hD hk hH)
        | ((with_reducible refine gate_store (t := 9) (p := 24) rfl ?_); refine store_event (t := 9) (p := 24) (v := ?vo_wb) (w1 := (wb.setCell ⟨g, ys.length * 8 + 1, none⟩ (.string t1))) ?hg ?ho ?hn ?hr ?_; (case ho => rfl); (case hg => rfl); (case hn => rfl); (case hr => first | (go_simp; done) | (go_simp; rfl)); intro wbx hw; replace HS := Aside0.mk (show Kd.S kD 34 wbx _ _ _ _ by rw [hw]; exact HP.out.1); replace HB := Aside0.mk (show Below w0.heap.size w0 wbx by rw [hw]; exact below_set HB.out HG.out); replace HK := Aside0.mk (Kept.of_grown (show wb.grownBy wbx (some g) by rw [hw]; exact HP.out.2) HK.out (fun k_ e_ => .inl (by injection e_ with e_; exact e_ ▸ HP0.out))); clear HP hx hy hw)
        | (go_at_call 48; (with_reducible refine (laws_markText.calls k (wrap64 ((wrap64 (a + 1)) + 1)) t2 _ T2.out).mono ?_); rintro e wc ⟨rfl, hb⟩; replace HS := Aside0.mk (Kd.S_below HS.out hb); replace HK := Aside0.mk (Kept.below HK.out hb); replace HB := Aside0.mk (below_step HB.out hb); clear hb; obtain ⟨oki, v4, v5, v6, o6, hc, hf, hD, hk, hH⟩ := kD_elem HS.out; have hx := hc 2 _ rfl; have hy := hf 2; have HP := Aside0.mk (kD_put hH hD hk HL.out 2 (.string t2) rfl (by decide) ⟨a, t1, t2, f3, f4, f5, f6, f7⟩ rfl rfl rfl rfl); clear hc hf hD hk hH)
        | ((with_reducible refine gate_store (t := 9) (p := 32) rfl ?_); refine store_event (t := 9) (p := 32) (v := ?vo_wc) (w1 := (wc.setCell ⟨g, ys.length * 8 + 2, none⟩ (.string t2))) ?hg ?ho ?hn ?hr ?_; (case ho => rfl); (case hg => rfl); (case hn => rfl); (case hr => first | (go_simp; done) | (go_simp; rfl)); intro wcx hw; replace HS := Aside0.mk (show Kd.S kD 34 wcx _ _ _ _ by rw [hw]; exact HP.out.1); replace HB := Aside0.mk (show Below w0.heap.size w0 wcx by rw [hw]; exact below_set HB.out HG.out); replace HK := Aside0.mk (Kept.of_grown (show wc.grownBy wcx (some g) by rw [hw]; exact HP.out.2) HK.out (fun k_ e_ => .inl (by injection e_ with e_; exact e_ ▸ HP0.out))); clear HP hx hy hw)
        | (go_at_call 48; (with_reducible refine (laws_markText.calls k (wrap64 ((wrap64 ((wrap64 (a + 1)) + 1)) + 1)) t3 _ T3.out).mono ?_); rintro e wd ⟨rfl, hb⟩; replace HS := Aside0.mk (Kd.S_below HS.out hb); replace HK := Aside0.mk (Kept.below HK.out hb); replace HB := Aside0.mk (below_step HB.out hb); clear hb; obtain ⟨oki, v4, v5, v6, o6, hc, hf, hD, hk, hH⟩ := kD_elem HS.out; have hx := hc 3 _ rfl; have hy := hf 3; have HP := Aside0.mk (kD_put hH hD hk HL.out 3 (.string t3) rfl (by decide) ⟨a, t1, t2, t3, f4, f5, f6, f7⟩ rfl rfl rfl rfl); clear hc hf hD hk hH)
        | ((with_reducible refine gate_store (t := 9) (p := 40) rfl ?_); refine store_event (t := 9) (p := 40) (v := ?vo_wd) (w1 := (wd.setCell ⟨g, ys.length * 8 + 3, none⟩ (.string t3))) ?hg ?ho ?hn ?hr ?_; (case ho => rfl); (case hg => rfl); (case hn => rfl); (case hr => first | (go_simp; done) | (go_simp; rfl)); intro wdx hw; replace HS := Aside0.mk (show Kd.S kD 34 wdx _ _ _ _ by rw [hw]; exact HP.out.1); replace HB := Aside0.mk (show Below w0.heap.size w0 wdx by rw [hw]; exact below_set HB.out HG.out); replace HK := Aside0.mk (Kept.of_grown (show wd.grownBy wdx (some g) by rw [hw]; exact HP.out.2) HK.out (fun k_ e_ => .inl (by injection e_ with e_; exact e_ ▸ HP0.out))); clear HP hx hy hw; obtain ⟨oki, v4, v5, v6, o6, hc, -, hD, hk, hH⟩ := kD_elem HS.out; have hx := hc 4 _ rfl; have HE := Aside0.mk (And.intro hH (And.intro hD hk)); clear hc hD hk hH)
        | (go_at_call 43; (with_reducible refine (laws_markDeclS.calls k (fun k_ => some k_ = v4.ownBlock) v4 f4 (wrap64 ((wrap64 ((wrap64 ((wrap64 (a + 1)) + 1)) + 1)) + 1)) d1 d2 w0 _ HB.out HE.out.2.1.1 TD.out).mono ?_); rintro e wf ⟨rfl, hR, hb, hkp⟩; replace HK := Aside0.mk (Kept.then_ HK.out hkp (fun k_ h_ => .inl (HE.out.2.2 k_ (HE.out.2.1.2.2.2.1 k_ h_)).1)); replace HS := Aside0.mk (kD_in4 HE.out.1 HE.out.2.1 hkp hR); replace HB := Aside0.mk hb; clear hx HE hkp hR hb; obtain ⟨oki, v4, v5, v6, o6, hc, -, hD, hk, hH⟩ := kD_elem HS.out; have hx := hc 5 _ rfl; have HE := Aside0.mk (And.intro hH (And.intro hD hk)); clear hc hD hk hH)
        | (go_at_call 44; (with_reducible refine (laws_markAttrS.calls k (fun k_ => some k_ = v5.ownBlock) v5 f5 d1 e1 e2 w0 _ HB.out HE.out.2.1.2.1 TT.out).mono ?_); rintro e wg ⟨rfl, hR, hb, hkp⟩; replace HK := Aside0.mk (Kept.then_ HK.out hkp (fun k_ h_ => .inl (HE.out.2.2 k_ (HE.out.2.1.2.2.2.2.1 k_ h_)).1)); replace HS := Aside0.mk (kD_in5 HE.out.1 HE.out.2.1 hkp hR); replace HB := Aside0.mk hb; clear hx HE hkp hR hb; obtain ⟨oki, v4, v5, v6, o6, hc, -, hD, hk, hH⟩ := kD_elem HS.out; have hx := hc 6 _ rfl; have HE := Aside0.mk (And.intro hH (And.intro hD hk)); clear hc hD hk hH)
        | (go_at_call 22; (with_reducible refine (IH.out o6 v6 f6 e1 c1 c2 w0 _ HB.out HE.out.2.1.2.2.1 TC.out).mono ?_); rintro e wh ⟨rfl, hR, hb, hkp⟩; replace HK := Aside0.mk (Kept.then_ HK.out hkp (fun k_ h_ => .inl (HE.out.2.2 k_ (HE.out.2.1.2.2.2.2.2 k_ h_).1).1)); replace HS := Aside0.mk (kD_in6 HE.out.1 HE.out.2.1 hkp hR); replace HB := Aside0.mk hb; clear hx HE hkp hR hb)
        | (go_at_call 48; (with_reducible refine (laws_markText.calls k (c1) t7 _ T7.out).mono ?_); rintro e wi ⟨rfl, hb⟩; replace HS := Aside0.mk (Kd.S_below HS.out hb); replace HK := Aside0.mk (Kept.below HK.out hb); replace HB := Aside0.mk (below_step HB.out hb); clear hb; obtain ⟨oki, v4, v5, v6, o6, hc, hf, hD, hk, hH⟩ := kD_elem HS.out; have hx := hc 7 _ rfl; have hy := hf 7; have HP := Aside0.mk (kD_put hH hD hk HL.out 7 (.string t7) rfl (by decide) ⟨a, t1, t2, t3, d2, e2, c2, t7⟩ rfl rfl rfl rfl); clear hc hf hD hk hH)
        | ((with_reducible refine gate_store (t := 9) (p := 69) rfl ?_); refine store_event (t := 9) (p := 69) (v := ?vo_wi) (w1 := (wi.setCell ⟨g, ys.length * 8 + 7, none⟩ (.string t7))) ?hg ?ho ?hn ?hr ?_; (case ho => rfl); (case hg => rfl); (case hn => rfl); (case hr => first | (go_simp; done) | (go_simp; rfl)); intro wix hw; replace HS := Aside0.mk (show Kd.S kD 34 wix _ _ _ _ by rw [hw]; exact HP.out.1); replace HB := Aside0.mk (show Below w0.heap.size w0 wix by rw [hw]; exact below_set HB.out HG.out); replace HK := Aside0.mk (Kept.of_grown (show wi.grownBy wix (some g) by rw [hw]; exact HP.out.2) HK.out (fun k_ e_ => .inl (by injection e_ with e_; exact e_ ▸ HP0.out))); clear HP hx hy hw))
      go_roundg zs.length
      case measure => have := HLEN.out; omega
      case rel => (have hl_ := HLEN.out); exact ⟨ys ++ [⟨a, t1, t2, t3, d2, e2, c2, t7⟩], zs, wrap64 (c1 + 1), q'.2, by simp; omega, Nat.le_refl _, rfl, by rw [List.length_append, List.length_singleton]; go_num, HR, ⟨by rw [HQ.out]; simp⟩, ⟨by rw [List.append_assoc]; exact HS.out⟩, ⟨HB.out⟩, ⟨HK.out⟩⟩

/-! ### laws_markNode: function 14 -/
def laws_markNode.g (k : Nat) (x : S34) (a : Int) : Option (Int × S34) :=
  (laws_markDeclS.f k x.f4 a).bind fun d => (laws_markAttrS.f k x.f5 d.1).bind fun t => (laws_markNodeS.f k x.f6 t.1).bind fun c => some (c.1, ⟨x.f0, x.f1, x.f2, x.f3, d.2, t.2, c.2, x.f7⟩)
def laws_markNode.f (k : Nat) (a0_0 : Int) (a0_1 a0_2 a0_3 : ByteArray) (l0_4 : List S88) (l0_5 : List S90) (l0_6 : List S34) (a0_7 : ByteArray) (a1 : Int) : Option Int :=
  (laws_markNode.g k ⟨a0_0, a0_1, a0_2, a0_3, l0_4, l0_5, l0_6, a0_7⟩ a1).map (·.1)
set_option maxRecDepth 100000 in
set_option maxHeartbeats 1000000 in
theorem laws_markNode.calls (k : Nat) (P : Nat → Prop) (x : S34) (v4 v5 v6 : Value) (o6 : Nat → Prop) (a1 r1 : Int) (x2 : S34) (w0 w : World) (hB : Below w0.heap.size w0 w) (hD : DN kD w w0.heap.size P x v4 v5 v6 o6) (h : laws_markNode.g k x a1 = some (r1, x2)) :
    Calls Try.prog 14 #[.agg #[.int .i64 x.f0, .string x.f1, .string x.f2, .string x.f3, v4, v5, v6, .string x.f7], .int .i64 a1] w fun e w' => e = .returned (.int .i64 r1) ∧ DN kD w' w0.heap.size P x2 v4 v5 v6 o6 ∧ Below w0.heap.size w0 w' ∧ Kept w w' (fun k => some k = v4.ownBlock ∨ some k = v5.ownBlock ∨ o6 k) := by
  obtain ⟨f0, f1, f2, f3, f4, f5, f6, f7⟩ := x
  obtain ⟨h4, h5, h6, a4, a5, a6⟩ := hD
  obtain ⟨⟨d1, d2⟩, hd, h1⟩ := Option.bind_eq_some_iff.1 h
  obtain ⟨⟨e1, e2⟩, ht, h2⟩ := Option.bind_eq_some_iff.1 h1
  obtain ⟨⟨c1, c2⟩, hc, h3⟩ := Option.bind_eq_some_iff.1 h2
  clear h h1 h2
  cases h3
  have TD := Aside0.mk hd
  have TT := Aside0.mk ht
  have TC := Aside0.mk hc
  have HA := Aside0.mk (And.intro a4 (And.intro a5 a6))
  have hu := Try.underlying34
  have n45 : ∀ W : World, Kd.R k88 88 W w0.heap.size (fun k => some k = v4.ownBlock) v4 f4 → Kd.R k90 90 W w0.heap.size (fun k => some k = v5.ownBlock) v5 f5 → ∀ k, some k = v5.ownBlock → ¬ some k = v4.ownBlock := fun W q4 q5 k k5 k4 => by
    obtain ⟨z1, y1⟩ := Kd.R_typed q4 k k4.symm
    obtain ⟨z2, y2⟩ := Kd.R_typed q5 k k5.symm
    rw [y1] at y2
    cases y2
  have hne := n45 w h4 h5
  have HN := Aside0.mk hne
  obtain ⟨A4, c4, e4⟩ := Kd.R_slice h4
  obtain ⟨A5, c5, e5⟩ := Kd.R_slice h5
  obtain ⟨A6, c6, e6⟩ := Kd.S_slice h6
  have hW := And.intro h4 (And.intro h5 (Kd.S_mono (Kd.S_bound h6) (ok' := fun k => o6 k ∧ k < w.heap.size) (fun k hk => ⟨hk.1, hk.2.2.1⟩)))
  have HW := Aside0.mk hW
  have HB := Aside0.mk hB
  clear hW hB h4 h5 h6 a4 a5 a6 hd ht hc hne n45
  dsimp only at TD TT TC HW ⊢
  generalize hl4 : f4.length = n4 at e4
  generalize hl5 : f5.length = n5 at e5
  generalize hl6 : f6.length = n6 at e6
  clear hl4 hl5 hl6
  subst e4 e5 e6
  go_enter Try.func14, Try.ntmps14
  go_wp2_with (first
    | ((with_reducible refine gate_dst (N := 2) rfl ?_); refine box_event ?hg (N := 2) ?hd (cs := #[.int .i64 f0, .string f1, .string f2, .string f3, .slice A4 n4 c4, .slice A5 n5 c5, .slice A6 n6 c6, .string f7]) (t := 34) ?hr ?_; (case hd => rfl); (case hg => rfl); (case hr => first | (go_simp; done) | (go_simp; rfl)); intro gb hg wb hbox hb; have BK := Aside0.mk hbox; have H4 := Aside0.mk (Kd.R_below HW.out.1 hb); have H5 := Aside0.mk (Kd.R_below HW.out.2.1 hb); have H6 := Aside0.mk (Kd.S_below HW.out.2.2 hb); have HK := Aside0.mk (Kept.of_below hb (fun k => some k = (Value.slice A4 n4 c4).ownBlock ∨ some k = (Value.slice A5 n5 c5).ownBlock ∨ o6 k)); have HE := Aside0.mk (And.intro (show ∀ k, some k = (Value.slice A4 n4 c4).ownBlock → k ≠ gb from fun k h_ => by have := Kd.R_lt HW.out.1 k h_.symm; omega) (And.intro (show ∀ k, some k = (Value.slice A5 n5 c5).ownBlock → k ≠ gb from fun k h_ => by have := Kd.R_lt HW.out.2.1 k h_.symm; omega) (show ∀ k, k < w.heap.size → k ≠ gb from fun k h_ => by omega))); replace HB := Aside0.mk (below_step HB.out hb); clear hg hbox hb HW; obtain ⟨hz0, hz1, hz2, hz3, hz4, hz5, hz6, hz7⟩ := bc8 BK.out)
    | (go_at_call 43; ((with_reducible refine (laws_markDeclS.calls k (fun k_ => some k_ = (Value.slice A4 n4 c4).ownBlock) (.slice A4 n4 c4) f4 a1 d1 d2 w0 _ HB.out H4.out TD.out).mono ?_); rintro e w1 ⟨rfl, hR, hb, hkp⟩; replace H4 := Aside0.mk (Kd.R_tight rfl hR); replace H5 := Aside0.mk (Kd.R_kept H5.out hkp (fun k_ => HN.out k_)); replace H6 := Aside0.mk (Kd.S_kept H6.out hkp (fun k_ h_ => (HA.out.2.2 k_ h_.1).2.1)); replace HK := Aside0.mk (Kept.then_ HK.out hkp (fun k_ h_ => .inl (.inl h_))); replace BK := Aside0.mk (blk_kept BK.out hkp (fun h_ => absurd rfl (HE.out.1 gb h_))); replace HB := Aside0.mk hb; clear hR hb hkp; obtain ⟨hz0, hz1, hz2, hz3, hz4, hz5, hz6, hz7⟩ := bc8 BK.out))
    | (go_at_call 44; ((with_reducible refine (laws_markAttrS.calls k (fun k_ => some k_ = (Value.slice A5 n5 c5).ownBlock) (.slice A5 n5 c5) f5 d1 e1 e2 w0 _ HB.out H5.out TT.out).mono ?_); rintro e w2 ⟨rfl, hR, hb, hkp⟩; replace H5 := Aside0.mk (Kd.R_tight rfl hR); replace H4 := Aside0.mk (Kd.R_kept H4.out hkp (fun k_ h4_ h5_ => HN.out k_ h5_ h4_)); replace H6 := Aside0.mk (Kd.S_kept H6.out hkp (fun k_ h_ => (HA.out.2.2 k_ h_.1).2.2)); replace HK := Aside0.mk (Kept.then_ HK.out hkp (fun k_ h_ => .inl (.inr (.inl h_)))); replace BK := Aside0.mk (blk_kept BK.out hkp (fun h_ => absurd rfl (HE.out.2.1 gb h_))); replace HB := Aside0.mk hb; clear hR hb hkp; obtain ⟨hz0, hz1, hz2, hz3, hz4, hz5, hz6, hz7⟩ := bc8 BK.out))
    | (go_at_call 22; ((with_reducible refine (laws_markNodeS.calls k (fun k => o6 k ∧ k < w.heap.size) (.slice A6 n6 c6) f6 e1 c1 c2 w0 _ HB.out H6.out TC.out).mono ?_); rintro e w3 ⟨rfl, hR, hb, hkp⟩; replace H6 := Aside0.mk hR; replace H4 := Aside0.mk (Kd.R_kept H4.out hkp (fun k_ h4_ h6_ => (HA.out.2.2 k_ h6_.1).2.1 h4_)); replace H5 := Aside0.mk (Kd.R_kept H5.out hkp (fun k_ h5_ h6_ => (HA.out.2.2 k_ h6_.1).2.2 h5_)); replace HK := Aside0.mk (Kept.then_ HK.out hkp (fun k_ h_ => .inl (.inr (.inr h_.1)))); replace HB := Aside0.mk hb; clear hR hb hkp)))
  go_ret
  exact ⟨rfl, ⟨H4.out, H5.out, Kd.S_mono H6.out (fun k h_ => h_.1), HA.out.1, HA.out.2.1, HA.out.2.2⟩, HB.out, HK.out⟩
theorem laws_markNode.calls8 (k : Nat) (P : Nat → Prop) (f0 : Int) (f1 f2 f3 : ByteArray) (f4 : List S88) (f5 : List S90) (f6 : List S34) (f7 : ByteArray) (v4 v5 v6 : Value) (o6 : Nat → Prop) (a1 r1 : Int) (x2 : S34) (w0 w : World) (hB : Below w0.heap.size w0 w) (hD : DN kD w w0.heap.size P ⟨f0, f1, f2, f3, f4, f5, f6, f7⟩ v4 v5 v6 o6) (h : laws_markNode.g k ⟨f0, f1, f2, f3, f4, f5, f6, f7⟩ a1 = some (r1, x2)) :
    Calls Try.prog 14 #[.agg #[.int .i64 f0, .string f1, .string f2, .string f3, v4, v5, v6, .string f7], .int .i64 a1] w fun e w' => e = .returned (.int .i64 r1) ∧ DN kD w' w0.heap.size P x2 v4 v5 v6 o6 ∧ Below w0.heap.size w0 w' ∧ Kept w w' (fun k => some k = v4.ownBlock ∨ some k = v5.ownBlock ∨ o6 k) :=
  laws_markNode.calls k P ⟨f0, f1, f2, f3, f4, f5, f6, f7⟩ v4 v5 v6 o6 a1 r1 x2 w0 w hB hD h

/-! ### laws_markIntS: function 28 -/
def laws_markIntS.l0 : Nat → List Int → Int → Int → Option (Int × List Int)
 | 0, _, _, _ => none
 | k + 1, x0, x1, x5 => if x5 < (x0.length : Int) then (if 0 ≤ x5 then (laws_markIntS.l0 k (x0.set (x5 : Int).toNat x1) (wrap64 (x1 + 1)) (wrap64 (x5 + 1))) else (none)) else (some (x1, x0))
def laws_markIntS.f (k : Nat) (l0 : List Int) (a1 : Int) : Option (Int × List Int) := laws_markIntS.l0 k l0 a1 0
theorem laws_markIntS.calls (k : Nat) (P0_ : Nat → Prop) (u9000_ : Value) (l0 : List Int) (a1 : Int) (r1 : Int) (r2 : List Int) (w0 w : World) (hB : Below w0.heap.size w0 w) (ho0 : Kd.R (Kd.int .i64) 3 w w0.heap.size P0_ u9000_ l0) (h : laws_markIntS.f k l0 a1 = some (r1, r2)) :
  Calls Try.prog 28 #[u9000_, .int .i64 a1] w fun e w' => e = .returned (.int .i64 r1) ∧ Kd.R (Kd.int .i64) 3 w' w0.heap.size (fun k_ => (P0_ k_ ∨ w.heap.size ≤ k_)) u9000_ r2 ∧ Below w0.heap.size w0 w' ∧ Kept w w' (fun k_ => P0_ k_) := by
 have HO0 := Aside0.mk (show Kd.R (Kd.int .i64) 3 w w0.heap.size (fun k_ => (P0_ k_ ∨ w.heap.size ≤ k_)) u9000_ l0 from Kd.R_mono ho0 (fun k_ hk => (.inl hk)))
 have HK := Aside0.mk (Kept.refl w (fun k_ => P0_ k_))
 have HW0 := Aside0.mk hB.size
 have HB := Aside0.mk hB
 clear hB
 have H : (laws_markIntS.l0 k l0 a1 0) = some (r1, r2) := h
 clear h
 have H' := Aside0.mk H
 clear H
 go_enter Try.func28, Try.ntmps28
 go_wp2
 go_loopg [1, 5] k (fun kq v1 v5 w' => ∃ (x0_1 : List Int) (x1_1 : Int) (x5_1 : Int), v1 = .int .i64 x1_1 ∧ v5 = .int .i64 x5_1 ∧ Aside0 (laws_markIntS.l0 kq x0_1 x1_1 x5_1 = some (r1, r2)) ∧ Aside0 (kq ≤ k) ∧ Aside0 (Kd.R (Kd.int .i64) 3 w' w0.heap.size (fun k_ => (P0_ k_ ∨ w.heap.size ≤ k_)) u9000_ x0_1) ∧ Aside0 (Kept w w' (fun k_ => P0_ k_)) ∧ Aside0 (Below w0.heap.size w0 w'))
 case atStart => exact ⟨(l0), (a1), (0), rG, rG, H', ⟨Nat.le_refl _⟩, ⟨by (with_reducible repeat (first|apply rA|apply rN|apply rD)); exact HO0.out⟩, ⟨by repeat (first|(with_reducible first|exact HK.out | apply Kept.alloc | apply Kept.drewN | apply Kept.drew) | exact HK.out)⟩, ⟨hB⟩⟩
 case round =>
  clear H'
  obtain ⟨x0_1, x1_1, x5_1, rfl, rfl, HA, HK1, HO_0, HK, HB⟩ := hrel
  cases gk with
  | zero => exact absurd HA.out (by simp [laws_markIntS.l0])
  | succ k1 =>
   have H := HA.out
   clear HA
   simp only [laws_markIntS.l0] at H
   by_cases c3 : x5_1 < (x0_1.length : Int)
   ·rw [if_pos c3] at H
    have c3b0 : decide (x5_1 < (x0_1.length : Int)) = true := decide_eq_true c3
    clear c3
    obtain ⟨c4, H⟩ := if_som H
    have c4b0 : decide (0 ≤ x5_1) = true := decide_eq_true c4
    clear c4
    obtain ⟨y240, hy240⟩ : ∃ y_ : List Int, y_ = (x0_1.set (x5_1 : Int).toNat x1_1) := ⟨_, rfl⟩
    replace H : (laws_markIntS.l0 k1 y240 (wrap64 (x1_1 + 1)) (wrap64 (x5_1 + 1))) = some (r1, r2) := by first | (rw [hy240]; with_reducible exact H) | (have H2_ := (Option.bind_some _ _).symm.trans H; rw [hy240]; with_reducible exact H2_) | (have H2_ := (Option.bind_some _ _).symm.trans H; with_reducible exact H2_) | with_reducible exact H | (rw [hy240]; exact H) | exact H
    have Ny240 := Aside0.mk hy240
    clear hy240
    have H' := Aside0.mk H
    clear H
    obtain ⟨Ao6, co6, eo6⟩ := Kd.R_slice HO_0.out
    subst eo6
    have p5 : 0 ≤ (x5_1 : Int) := odt
    have q5 : (x5_1 : Int) < ((x0_1.length : Int) : Int) := odt
    obtain ⟨go5, co5, eo5, gb5, gl5, cl5, HG5⟩ := Kd.R_form HO_0.out (by omega)
    (first | cases eo5 | (injection eo5 with ea_ en_ ec_; (first | subst ea_ | (injection ea_ with ea_; subst ea_)); subst ec_; clear en_))
    have GB5 := Aside0.mk gb5
    have GG5 := Aside0.mk HG5
    clear gb5 gl5 HG5
    have HMgo5 := Aside0.mk (show (P0_ go5 ∨ w.heap.size ≤ go5) from (HO_0.out.1 _ rfl))
    obtain ⟨hx5_0, hf5_0⟩ := Kd.R_celln 0 HO_0.out (x5_1 : Int) p5 q5
    replace p5 := eq_true p5
    replace q5 := eq_true q5
    have HP7 := Kd.R_putg HO_0.out (x5_1 : Int) x1_1
    go_wp2_with (first | ((with_reducible refine gate_store (t := 3) (p := 15) rfl ?_); refine store_event (t := 3) (p := 15) (v := ?vo_w8) (w1 := (wr.setCell ⟨go5, (x5_1 : Int).toNat, none⟩ (.int .i64 x1_1))) ?hg ?ho ?hn ?hr ?_; (case ho => rfl); (case hg => rfl); (case hn => rfl); (case hr => first | (go_simp; done) | (go_simp; rfl)); intro w8 hw; have hg : wr.grownBy w8 (some go5) := (by rw [hw]; exact HP7.2); have hp_ : Kd.R (Kd.int .i64) 3 w8 w0.heap.size (fun k_ => (P0_ k_ ∨ w.heap.size ≤ k_)) (.slice (some ⟨go5, 0, none⟩) x0_1.length co6) y240 := (by rw [hw, Ny240.out]; exact HP7.1); clear HP7; replace HB := Aside0.mk ((by rw [hw]; exact below_set (HB.out) GB5.out : Below w0.heap.size w0 w8)); replace HK := Aside0.mk (Kept.of_grown (S := (fun k_ => P0_ k_)) hg (by repeat (first|(with_reducible first|exact HK.out | apply Kept.alloc | apply Kept.drewN | apply Kept.drew) | exact HK.out)) (fun k_ e_ => (HO_0.out.1 k_ e_))); replace HO_0 := Aside0.mk (hp_); clear hg hw hp_))
    go_roundg k1
    case measure => have := HK1.out; omega
    case rel => exact ⟨(y240), (wrap64 (x1_1 + 1)), (wrap64 (x5_1 + 1)), rG, rG, H', ⟨by have := HK1.out; omega⟩, ⟨by (with_reducible repeat (first|apply rA|apply rN|apply rD)); exact HO_0.out⟩, ⟨by repeat (first|(with_reducible first|exact HK.out | apply Kept.alloc | apply Kept.drewN | apply Kept.drew) | exact HK.out)⟩, ⟨hB⟩⟩
   ·rw [if_neg c3] at H
    have c3b0 : decide (x5_1 < (x0_1.length : Int)) = false := decide_eq_false c3
    clear c3
    simp only [Option.some.injEq, Prod.mk.injEq] at H
    obtain ⟨rfl, rfl⟩ := H
    obtain ⟨Ao9, co9, eo9⟩ := Kd.R_slice HO_0.out
    subst eo9
    go_wp2
    go_ret
    exact ⟨rE, by (with_reducible repeat (first|apply rA|apply rN|apply rD)); exact HO_0.out, hB, by repeat (first|(with_reducible first|exact HK.out | apply Kept.alloc | apply Kept.drewN | apply Kept.drew) | exact HK.out)⟩

/-! ### laws_markIntSS: function 15 -/
def laws_markIntSS.go (k : Nat) : List (List Int) → Int → Option (Int × List (List Int))
  | [], a => some (a, [])
  | x :: xs, a => (laws_markIntS.f k x a).bind fun p => (laws_markIntSS.go k xs p.1).bind fun q => some (q.1, p.2 :: q.2)
def laws_markIntSS.f (k : Nat) (xs : List (List Int)) (a : Int) : Option (Int × List (List Int)) := if xs.length < 4611686018427387904 then laws_markIntSS.go k xs a else none
theorem laws_markIntSS.elem {W : World} {base g n cap : Nat} {ok : Nat → Prop} {ys zs : List (List Int)} {x : List Int} (h : Kd.S (Kd.slice 3 (Kd.int .i64)) 47 W base ok (.slice (some ⟨g, 0, none⟩) n cap) (ys ++ x :: zs)) :
    ∃ oki A c, W.cell? ⟨g, ys.length, none⟩ = some (.slice A x.length c) ∧ Kd.R (Kd.int .i64) 3 W base oki (.slice A x.length c) x ∧ (∀ k, oki k → ok k) ∧ Kd.H (Kd.slice 3 (Kd.int .i64)) 47 W base ok (.slice (some ⟨g, 0, none⟩) n cap) (ys ++ x :: zs) (ys.length : Int) oki [.slice A x.length c] := by
  have hn := (Kd.S_reads' h).1
  rw [List.length_append, List.length_cons] at hn
  obtain ⟨oki, c, _, hM, hc, _, hk, hH⟩ := Kd.S_elem h [] (ys.length : Int) (by omega) (by omega)
  rw [Int.toNat_natCast, show (ys ++ x :: zs).getD ys.length [] = x by simp [List.getD]] at hM
  obtain ⟨v, rfl, hR⟩ := hM
  obtain ⟨A, c, rfl⟩ := Kd.R_slice hR
  have h0 := hc 0 _ rfl
  rw [Int.toNat_natCast, show ys.length * (Kd.slice 3 (Kd.int .i64)).sz + 0 = ys.length from Nat.mul_one _] at h0
  exact ⟨oki, A, c, h0, hR, fun k h1 => (hk k h1).1, hH⟩
theorem laws_markIntSS.back {W W1 : World} {base g n cap : Nat} {ok oki P : Nat → Prop} {ys zs : List (List Int)} {x x' : List Int} {A : Option Addr} {m c : Nat} (hH : Kd.H (Kd.slice 3 (Kd.int .i64)) 47 W base ok (.slice (some ⟨g, 0, none⟩) n cap) (ys ++ x :: zs) (ys.length : Int) oki [.slice A m c])
    (hk : Kept W W1 oki) (h0 : ∀ k, (Value.slice A m c).ownBlock = some k → oki k) (hR : Kd.R (Kd.int .i64) 3 W1 base P (.slice A m c) x') : Kd.S (Kd.slice 3 (Kd.int .i64)) 47 W1 base ok (.slice (some ⟨g, 0, none⟩) n cap) (ys ++ x' :: zs) := by
  have h := Kd.H_back (okp := oki) (x' := x') (Kd.H_kept hH hk (fun k _ hn hs => hn hs)) ⟨_, rfl, Kd.R_mono (Kd.R_tight rfl hR) (fun k hk => h0 k hk.symm)⟩ (fun _ h => h)
  rw [show (ys ++ x :: zs).set ((ys.length : Int)).toNat x' = ys ++ x' :: zs by simp] at h
  exact h
set_option maxRecDepth 100000 in
set_option maxHeartbeats 4000000 in
theorem laws_markIntSS.calls (k : Nat) (P : Nat → Prop) (u : Value) (l0 : List (List Int)) (a1 r1 : Int) (r2 : List (List Int)) (w0 w : World) (hB : Below w0.heap.size w0 w) (ho : Kd.S (Kd.slice 3 (Kd.int .i64)) 47 w w0.heap.size P u l0) (h : laws_markIntSS.f k l0 a1 = some (r1, r2)) :
    Calls Try.prog 15 #[u, .int .i64 a1] w fun e w' => e = .returned (.int .i64 r1) ∧ Kd.S (Kd.slice 3 (Kd.int .i64)) 47 w' w0.heap.size P u r2 ∧ Below w0.heap.size w0 w' ∧ Kept w w' P := by
  simp only [laws_markIntSS.f] at h
  obtain ⟨hz, h⟩ := if_som h
  obtain ⟨A, c, rfl, -, -⟩ := Kd.S_reads ho
  have HS := Aside0.mk ho
  have HB := Aside0.mk hB
  have HH := Aside0.mk h
  clear hB ho h
  go_enter Try.func15, Try.ntmps15
  go_wp2
  go_loopg [1, 5] l0.length (fun gg s1 s5 wr => ∃ (ys zs : List (List Int)) (a : Int) (q : List (List Int)), ys.length + zs.length = l0.length ∧ zs.length ≤ gg ∧ s1 = .int .i64 a ∧ s5 = .int .i64 (ys.length : Int) ∧ Aside0 (laws_markIntSS.go k zs a = some (r1, q)) ∧ Aside0 (r2 = ys ++ q) ∧ Aside0 (Kd.S (Kd.slice 3 (Kd.int .i64)) 47 wr w0.heap.size P (.slice A l0.length c) (ys ++ zs)) ∧ Aside0 (Below w0.heap.size w0 wr) ∧ Aside0 (Kept w wr P))
  case atStart => exact ⟨[], l0, a1, r2, by simp, Nat.le_refl _, rfl, rfl, HH, ⟨rfl⟩, ⟨HS.out⟩, ⟨HB.out⟩, ⟨Kept.refl _ _⟩⟩
  case round =>
    clear HH HS HB
    obtain ⟨ys, zs, a, q, hlen, hg, rfl, rfl, HH, HQ, HS, HB, HK⟩ := hrel
    cases zs with
    | nil =>
      have hlt : ¬ (ys.length : Int) < (l0.length : Int) := by simp at hlen; omega
      obtain ⟨rfl, rfl⟩ : a = r1 ∧ q = [] := by have := HH.out; simp only [laws_markIntSS.go, Option.some.injEq, Prod.mk.injEq] at this; exact ⟨this.1, this.2.symm⟩
      rw [List.append_nil] at HS HQ
      obtain rfl := HQ.out
      go_wp2
      go_ret
      exact ⟨rfl, HS.out, HB.out, HK.out⟩
    | cons x zs =>
      rw [List.length_cons] at hlen hg
      have hlt : (ys.length : Int) < (l0.length : Int) := by omega
      have hl0 : (0 : Int) ≤ (ys.length : Int) := by omega
      obtain ⟨⟨p1, p2⟩, hp, h2⟩ := Option.bind_eq_some_iff.1 (show (laws_markIntS.f k x a).bind _ = some (r1, q) from HH.out)
      obtain ⟨q', hq, h3⟩ := Option.bind_eq_some_iff.1 h2
      simp only [Option.some.injEq, Prod.mk.injEq] at h3
      obtain ⟨h31, rfl⟩ := h3
      have TP := Aside0.mk hp
      have HR := Aside0.mk (show laws_markIntSS.go k zs p1 = some (r1, q'.2) by rw [← h31]; exact hq)
      clear HH h2 hq h31 hp
      obtain ⟨g, cap, eg, -, -, -⟩ := Kd.S_form HS.out (by simp; omega)
      injection eg with eA eN eC
      subst eA
      have HLEN := Aside0.mk (And.intro hlen hg)
      clear eC eN hlen hg
      obtain ⟨oki, B, d, hx, hD, hk, hH⟩ := laws_markIntSS.elem HS.out
      have HE := Aside0.mk (And.intro hH (And.intro hD hk))
      clear hD hk hH
      go_wp2_with (go_at_call 28; (with_reducible refine (laws_markIntS.calls k oki (.slice B x.length d) x a p1 p2 w0 _ HB.out HE.out.2.1 TP.out).mono ?_); rintro e wf ⟨rfl, hR, hb, hkp⟩; replace HK := Aside0.mk (Kept.then_ HK.out hkp (fun k_ h_ => .inl (HE.out.2.2 k_ h_))); replace HS := Aside0.mk (laws_markIntSS.back HE.out.1 hkp HE.out.2.1.1 hR); replace HB := Aside0.mk hb; clear hx HE hkp hR hb)
      go_roundg zs.length
      case measure => have := HLEN.out; omega
      case rel => (have hl_ := HLEN.out); exact ⟨ys ++ [p2], zs, p1, q'.2, by simp; omega, Nat.le_refl _, rfl, by rw [List.length_append, List.length_singleton]; go_num, HR, ⟨by rw [HQ.out]; simp⟩, ⟨by rw [List.append_assoc]; exact HS.out⟩, ⟨HB.out⟩, ⟨HK.out⟩⟩

/-! ### laws_heldIntS: function 45 -/
def laws_heldIntS.l0 : Nat → List Int → Int → Int → Option (Int)
 | 0, _, _, _ => none
 | k + 1, x0, x1, x5 => if x5 < (x0.length : Int) then (if 0 ≤ x5 then (if (rd x0 x5) = x1 then (laws_heldIntS.l0 k x0 (wrap64 (x1 + 1)) (wrap64 (x5 + 1))) else (some (-1))) else (none)) else (some x1)
def laws_heldIntS.f (k : Nat) (l0 : List Int) (a1 : Int) : Option (Int) := laws_heldIntS.l0 k l0 a1 0
theorem laws_heldIntS.calls (k : Nat) (A0 : Option Addr) (c0 : Nat) (l0 : List Int) (a1 : Int) (r : Int) (w : World) (hr0 : Kd.C (Kd.int .i64) w A0 l0.length l0) (hc0 : l0.length ≤ c0) (h : laws_heldIntS.f k l0 a1 = some r) :
  Calls Try.prog 45 #[.slice A0 l0.length c0, .int .i64 a1] w fun e w' => e = .returned (.int .i64 r) ∧ Drawn0 w w' := by
 have HR0 := Aside0.mk hr0
 have HC0 := Aside0.mk hc0
 clear hr0 hc0
 have H : (laws_heldIntS.l0 k l0 a1 0) = some r := h
 clear h
 have H' := Aside0.mk H
 clear H
 go_enter Try.func45, Try.ntmps45
 go_wp2
 go_loopg [1, 5] k (fun kq v1 v5 w' => ∃ (x1_1 : Int) (x5_1 : Int), v1 = .int .i64 x1_1 ∧ v5 = .int .i64 x5_1 ∧ Aside0 (laws_heldIntS.l0 kq l0 x1_1 x5_1 = some r) ∧ Aside0 (kq ≤ k) ∧ Drawn0 w w')
 case atStart => exact ⟨(a1), (0), rG, rG, H', ⟨Nat.le_refl _⟩, by repeat (first | exact Drawn0.refl _ | apply Drawn0.step)⟩
 case round =>
  clear H'
  obtain ⟨x1_1, x5_1, rfl, rfl, HA, HK1, ⟨m1, rfl⟩⟩ := hrel
  cases gk with
  | zero => exact absurd HA.out (by simp [laws_heldIntS.l0])
  | succ k1 =>
   have H := HA.out
   clear HA
   simp only [laws_heldIntS.l0] at H
   by_cases c3 : x5_1 < (l0.length : Int)
   ·rw [if_pos c3] at H
    have c3b0 : decide (x5_1 < (l0.length : Int)) = true := decide_eq_true c3
    clear c3
    obtain ⟨c4, H⟩ := if_som H
    have c4b0 : decide (0 ≤ x5_1) = true := decide_eq_true c4
    clear c4
    by_cases c5 : (rd l0 x5_1) = x1_1
    ·rw [if_pos c5] at H
     obtain ⟨c5b0, c5b1⟩ := eqT c5
     clear c5
     have H' := Aside0.mk H
     clear H
     have p241 : 0 ≤ (x5_1 : Int) := odt
     have q241 : x5_1 < (l0.length : Int) := odt
     obtain ⟨ad241, e241, hx241_0⟩ := Kd.at_int HR0.out x5_1 p241 q241
     cases e241
     replace p241 := eq_true p241
     replace q241 := eq_true q241
     go_wp2
     go_roundg k1
     case measure => have := HK1.out; omega
     case rel => exact ⟨(wrap64 (x1_1 + 1)), (wrap64 (x5_1 + 1)), rG, rG, H', ⟨by have := HK1.out; omega⟩, by repeat (first | exact Drawn0.refl _ | apply Drawn0.step)⟩
    ·rw [if_neg c5] at H
     obtain ⟨c5b0, c5b1⟩ := eqF c5
     obtain rfl := Option.some.inj H
     have p241 : 0 ≤ (x5_1 : Int) := odt
     have q241 : x5_1 < (l0.length : Int) := odt
     obtain ⟨ad241, e241, hx241_0⟩ := Kd.at_int HR0.out x5_1 p241 q241
     cases e241
     replace p241 := eq_true p241
     replace q241 := eq_true q241
     go_wp2
     go_ret
     exact ⟨by first | rfl | (simp; done) | (simp [*]; done), by repeat (first | exact Drawn0.refl _ | apply Drawn0.step)⟩
   ·rw [if_neg c3] at H
    have c3b0 : decide (x5_1 < (l0.length : Int)) = false := decide_eq_false c3
    clear c3
    obtain rfl := Option.some.inj H
    go_wp2
    go_ret
    exact ⟨by first | rfl | (simp; done) | (simp [*]; done), by repeat (first | exact Drawn0.refl _ | apply Drawn0.step)⟩

/-! ### laws_heldIntSS: function 16 -/
def laws_heldIntSS.l0 : Nat → List (List Int) → Int → Int → Option (Int)
 | 0, _, _, _ => none
 | k + 1, x0, x1, x5 => if x5 < (x0.length : Int) then (if 0 ≤ x5 then ((laws_heldIntS.f k (rd_L12 x0 x5) x1).bind fun t243 => (if t243 < 0 then (some (-1)) else (laws_heldIntSS.l0 k x0 t243 (wrap64 (x5 + 1))))) else (none)) else (some x1)
def laws_heldIntSS.f (k : Nat) (l0 : List (List Int)) (a1 : Int) : Option (Int) := laws_heldIntSS.l0 k l0 a1 0
theorem laws_heldIntSS.calls (k : Nat) (A0 : Option Addr) (c0 : Nat) (l0 : List (List Int)) (a1 : Int) (r : Int) (w : World) (hr0 : Kd.C (Kd.slice 3 (Kd.int .i64)) w A0 l0.length l0) (hc0 : l0.length ≤ c0) (h : laws_heldIntSS.f k l0 a1 = some r) :
  Calls Try.prog 16 #[.slice A0 l0.length c0, .int .i64 a1] w fun e w' => e = .returned (.int .i64 r) ∧ Drawn0 w w' := by
 have HR0 := Aside0.mk hr0
 have HC0 := Aside0.mk hc0
 clear hr0 hc0
 have H : (laws_heldIntSS.l0 k l0 a1 0) = some r := h
 clear h
 have H' := Aside0.mk H
 clear H
 go_enter Try.func16, Try.ntmps16
 go_wp2
 go_loopg [1, 5] k (fun kq v1 v5 w' => ∃ (x1_1 : Int) (x5_1 : Int), v1 = .int .i64 x1_1 ∧ v5 = .int .i64 x5_1 ∧ Aside0 (laws_heldIntSS.l0 kq l0 x1_1 x5_1 = some r) ∧ Aside0 (kq ≤ k) ∧ Drawn0 w w')
 case atStart => exact ⟨(a1), (0), rG, rG, H', ⟨Nat.le_refl _⟩, by repeat (first | exact Drawn0.refl _ | apply Drawn0.step)⟩
 case round =>
  clear H'
  obtain ⟨x1_1, x5_1, rfl, rfl, HA, HK1, ⟨m1, rfl⟩⟩ := hrel
  cases gk with
  | zero => exact absurd HA.out (by simp [laws_heldIntSS.l0])
  | succ k1 =>
   have H := HA.out
   clear HA
   simp only [laws_heldIntSS.l0] at H
   by_cases c3 : x5_1 < (l0.length : Int)
   ·rw [if_pos c3] at H
    have c3b0 : decide (x5_1 < (l0.length : Int)) = true := decide_eq_true c3
    clear c3
    obtain ⟨c4, H⟩ := if_som H
    have c4b0 : decide (0 ≤ x5_1) = true := decide_eq_true c4
    clear c4
    replace H := Option.bind_eq_some_iff.mp H
    obtain ⟨t243, A50, H⟩ := H
    try dsimp only at H
    have A5 := Aside0.mk A50
    clear A50
    have p242 : 0 ≤ (x5_1 : Int) := odt
    have q242 : x5_1 < (l0.length : Int) := odt
    obtain ⟨ad242, A242_0, c242_0, e242, hx242_0, hl242_0, hi242_0⟩ := at_L12 HR0.out x5_1 p242 q242
    cases e242
    have HR242_0 := Aside0.mk hi242_0
    have HC242_0 := Aside0.mk hl242_0
    clear hi242_0 hl242_0
    replace p242 := eq_true p242
    replace q242 := eq_true q242
    go_wp2_with (first | ((with_reducible refine gate_callee (f := 45) rfl ?_); refine goesL_ (some 17) rfl rfl Try.func45 (by kernel_rfl) rfl #[.slice A242_0 (rd_L12 l0 x5_1).length c242_0, .int .i64 x1_1] rfl mA ?_; (with_reducible refine (laws_heldIntS.calls k1 _ _ (rd_L12 l0 x5_1) x1_1 t243 _ ?side1 ?side2 A5.out).mono ?_); (case side1 => repeat (first | exact HR242_0.out | (with_reducible refine Kd.C_alloc ?_ _) | (with_reducible refine Kd.C_drewN ?_ _) | (with_reducible refine Kd.C_drew ?_))); (case side2 => exact HC242_0.out); rintro e w' ⟨rfl, ⟨nd, rfl⟩⟩; refine ⟨_, rfl, ?_⟩; refine halt_ ?_; intro q_ hq_))
    obtain ⟨rfl⟩ := hq_
    by_cases c6 : t243 < 0
    ·rw [if_pos c6] at H
     have c6b0 : decide (t243 < 0) = true := decide_eq_true c6
     clear c6
     obtain rfl := Option.some.inj H
     go_wp2
     go_ret
     exact ⟨by first | rfl | (simp; done) | (simp [*]; done), by repeat (first | exact Drawn0.refl _ | apply Drawn0.step)⟩
    ·rw [if_neg c6] at H
     have c6b0 : decide (t243 < 0) = false := decide_eq_false c6
     clear c6
     have H' := Aside0.mk H
     clear H
     go_wp2
     go_roundg k1
     case measure => have := HK1.out; omega
     case rel => exact ⟨(t243), (wrap64 (x5_1 + 1)), rG, rG, H', ⟨by have := HK1.out; omega⟩, by repeat (first | exact Drawn0.refl _ | apply Drawn0.step)⟩
   ·rw [if_neg c3] at H
    have c3b0 : decide (x5_1 < (l0.length : Int)) = false := decide_eq_false c3
    clear c3
    obtain rfl := Option.some.inj H
    go_wp2
    go_ret
    exact ⟨by first | rfl | (simp; done) | (simp [*]; done), by repeat (first | exact Drawn0.refl _ | apply Drawn0.step)⟩

/-! ### laws_szNode: function 8 -/
def laws_szNode.F (G_ : List (S26) → Int → Option (Int)) (k : Nat) (a0_0 : Int) (a0_1 : ByteArray) (a0_2 : ByteArray) (a0_3 : ByteArray) (l0_4 : List (S84)) (l0_5 : List (S87)) (l0_6 : List (S26)) (a0_7 : ByteArray) (a1 : Int) : Option (Int) := if (wrap64 (a1 - (a0_1.size : Int))) < 0 then (some (-1)) else (if (wrap64 ((wrap64 (a1 - (a0_1.size : Int))) - (a0_2.size : Int))) < 0 then (some (-1)) else (if (wrap64 ((wrap64 ((wrap64 (a1 - (a0_1.size : Int))) - (a0_2.size : Int))) - (a0_3.size : Int))) < 0 then (some (-1)) else ((laws_szDeclS.f k l0_4 (wrap64 ((wrap64 ((wrap64 (a1 - (a0_1.size : Int))) - (a0_2.size : Int))) - (a0_3.size : Int)))).bind fun t108 => (if t108 < 0 then (some (-1)) else ((laws_szAttrS.f k l0_5 t108).bind fun t109 => (if t109 < 0 then (some (-1)) else ((G_ l0_6 t109).bind fun t110 => (if t110 < 0 then (some (-1)) else (if (wrap64 (t110 - (a0_7.size : Int))) < 0 then (some (-1)) else (some (wrap64 (t110 - (a0_7.size : Int)))))))))))))
theorem laws_szNode.monoF {G_ G2_ : List (S26) → Int → Option (Int)} (hG_ : ∀ y0_ y1_, LeO (G_ y0_ y1_) (G2_ y0_ y1_)) : ∀ a0 a1 a2 a3 a4 a5 a6 a7 a8 k, LeO (laws_szNode.F G_ k a0 a1 a2 a3 a4 a5 a6 a7 a8) (laws_szNode.F G2_ (k + 1) a0 a1 a2 a3 a4 a5 a6 a7 a8) := by
 intro a0 a1 a2 a3 a4 a5 a6 a7 a8 k
 unfold laws_szNode.F
 repeat' first
   | (with_reducible exact laws_szAttrS.mono _ _ _)
   | (with_reducible exact laws_szDeclS.mono _ _ _)
   | (with_reducible exact hG_ _ _)
   | (with_reducible exact LeO.refl _)
   | (with_reducible exact LeO.none _)
   | (with_reducible refine LeO.ite ?_ ?_)
   | (with_reducible refine LeO.bind ?_ (fun _ => ?_))
   | exact laws_szAttrS.mono _ _ _
   | exact laws_szDeclS.mono _ _ _
   | exact hG_ _ _
   | exact LeO.none _
   | refine LeO.ite ?_ ?_
   | refine LeO.bind ?_ (fun _ => ?_)
theorem laws_szNode.callsF (G_ : List (S26) → Int → Option (Int)) (hG_ : ∀ (A0 : Option Addr) (c0 : Nat) (l0 : List (S26)) (a1 : Int) (r : Int) (w : World) (hr0 : Kd.C k26 w A0 l0.length l0) (hc0 : l0.length ≤ c0) (h : G_ l0 a1 = some r), Calls Try.prog 17 #[.slice A0 l0.length c0, .int .i64 a1] w fun e w' => e = .returned (.int .i64 r) ∧ Below w.heap.size w w') (k : Nat) (a0_0 : Int) (a0_1 : ByteArray) (a0_2 : ByteArray) (a0_3 : ByteArray) (A0_4 : Option Addr) (c0_4 : Nat) (l0_4 : List (S84)) (A0_5 : Option Addr) (c0_5 : Nat) (l0_5 : List (S87)) (A0_6 : Option Addr) (c0_6 : Nat) (l0_6 : List (S26)) (a0_7 : ByteArray) (a1 : Int) (r : Int) (w : World) (hr0_4 : Kd.C k84 w A0_4 l0_4.length l0_4) (hc0_4 : l0_4.length ≤ c0_4) (hr0_5 : Kd.C k87 w A0_5 l0_5.length l0_5) (hc0_5 : l0_5.length ≤ c0_5) (hr0_6 : Kd.C k26 w A0_6 l0_6.length l0_6) (hc0_6 : l0_6.length ≤ c0_6) (h : laws_szNode.F G_ k a0_0 a0_1 a0_2 a0_3 l0_4 l0_5 l0_6 a0_7 a1 = some r) :
  Calls Try.prog 8 #[.agg #[.int .i64 a0_0, .string a0_1, .string a0_2, .string a0_3, .slice A0_4 l0_4.length c0_4, .slice A0_5 l0_5.length c0_5, .slice A0_6 l0_6.length c0_6, .string a0_7], .int .i64 a1] w fun e w' => e = .returned (.int .i64 r) ∧ Below w.heap.size w w' := by
 have hu26 := Try.underlying26
 have HR0_4 := Aside0.mk hr0_4
 have HC0_4 := Aside0.mk hc0_4
 clear hr0_4 hc0_4
 have HR0_5 := Aside0.mk hr0_5
 have HC0_5 := Aside0.mk hc0_5
 clear hr0_5 hc0_5
 have HR0_6 := Aside0.mk hr0_6
 have HC0_6 := Aside0.mk hc0_6
 clear hr0_6 hc0_6
 have HB := Aside0.mk (Below.refl w.heap.size w)
 have H : (if (wrap64 (a1 - (a0_1.size : Int))) < 0 then (some (-1)) else (if (wrap64 ((wrap64 (a1 - (a0_1.size : Int))) - (a0_2.size : Int))) < 0 then (some (-1)) else (if (wrap64 ((wrap64 ((wrap64 (a1 - (a0_1.size : Int))) - (a0_2.size : Int))) - (a0_3.size : Int))) < 0 then (some (-1)) else ((laws_szDeclS.f k l0_4 (wrap64 ((wrap64 ((wrap64 (a1 - (a0_1.size : Int))) - (a0_2.size : Int))) - (a0_3.size : Int)))).bind fun t108 => (if t108 < 0 then (some (-1)) else ((laws_szAttrS.f k l0_5 t108).bind fun t109 => (if t109 < 0 then (some (-1)) else ((G_ l0_6 t109).bind fun t110 => (if t110 < 0 then (some (-1)) else (if (wrap64 (t110 - (a0_7.size : Int))) < 0 then (some (-1)) else (some (wrap64 (t110 - (a0_7.size : Int)))))))))))))) = some r := h
 clear h
 go_enter Try.func8, Try.ntmps8
 go_wp2_with (first | ((with_reducible refine gate_dst (N := 2) rfl ?_); refine box_event ?hg (N := 2) ?hd (cs := #[.int .i64 a0_0, .string a0_1, .string a0_2, .string a0_3, .slice A0_4 l0_4.length c0_4, .slice A0_5 l0_5.length c0_5, .slice A0_6 l0_6.length c0_6, .string a0_7]) (t := 26) ?hr ?_; (case hd => rfl); (case hg => rfl); (case hr => first | (go_simp; done) | (go_simp; rfl)); intro gb107 hg w3 hbox hb; have BK107 := Aside0.mk (hbox); have GW107 := Aside0.mk ((by rw [hg]; exact (below_size hB) : w.heap.size ≤ gb107)); have GE107 := Aside0.mk ((by rw [hg]; exact (below_size hB) : w.heap.size ≤ gb107)); replace HB := Aside0.mk (below_step hB hb); clear hb hbox hg; obtain ⟨hcz4_0, hcz4_1, hcz4_2, hcz4_3, hcz4_4, hcz4_5, hcz4_6, hcz4_7⟩ := bc8 BK107.out; refine halt_ ?_; intro q_ hq_))
 obtain ⟨rfl⟩ := hq_
 by_cases c5 : (wrap64 (a1 - (a0_1.size : Int))) < 0
 ·rw [if_pos c5] at H
  have c5b0 : decide ((wrap64 (a1 - (a0_1.size : Int))) < 0) = true := decide_eq_true c5
  clear c5
  obtain rfl := Option.some.inj H
  go_wp2
  go_ret
  exact ⟨rE, hB⟩
 ·rw [if_neg c5] at H
  have c5b0 : decide ((wrap64 (a1 - (a0_1.size : Int))) < 0) = false := decide_eq_false c5
  clear c5
  by_cases c6 : (wrap64 ((wrap64 (a1 - (a0_1.size : Int))) - (a0_2.size : Int))) < 0
  ·rw [if_pos c6] at H
   have c6b0 : decide ((wrap64 ((wrap64 (a1 - (a0_1.size : Int))) - (a0_2.size : Int))) < 0) = true := decide_eq_true c6
   clear c6
   obtain rfl := Option.some.inj H
   obtain ⟨hcz7_0, hcz7_1, hcz7_2, hcz7_3, hcz7_4, hcz7_5, hcz7_6, hcz7_7⟩ := bc8 BK107.out
   go_wp2
   go_ret
   exact ⟨rE, hB⟩
  ·rw [if_neg c6] at H
   have c6b0 : decide ((wrap64 ((wrap64 (a1 - (a0_1.size : Int))) - (a0_2.size : Int))) < 0) = false := decide_eq_false c6
   clear c6
   by_cases c8 : (wrap64 ((wrap64 ((wrap64 (a1 - (a0_1.size : Int))) - (a0_2.size : Int))) - (a0_3.size : Int))) < 0
   ·rw [if_pos c8] at H
    have c8b0 : decide ((wrap64 ((wrap64 ((wrap64 (a1 - (a0_1.size : Int))) - (a0_2.size : Int))) - (a0_3.size : Int))) < 0) = true := decide_eq_true c8
    clear c8
    obtain rfl := Option.some.inj H
    obtain ⟨hcz9_0, hcz9_1, hcz9_2, hcz9_3, hcz9_4, hcz9_5, hcz9_6, hcz9_7⟩ := bc8 BK107.out
    go_wp2
    go_ret
    exact ⟨rE, hB⟩
   ·rw [if_neg c8] at H
    have c8b0 : decide ((wrap64 ((wrap64 ((wrap64 (a1 - (a0_1.size : Int))) - (a0_2.size : Int))) - (a0_3.size : Int))) < 0) = false := decide_eq_false c8
    clear c8
    replace H := Option.bind_eq_some_iff.mp H
    obtain ⟨t108, A100, H⟩ := H
    try dsimp only at H
    have A10 := Aside0.mk A100
    clear A100
    obtain ⟨hcz11_0, hcz11_1, hcz11_2, hcz11_3, hcz11_4, hcz11_5, hcz11_6, hcz11_7⟩ := bc8 BK107.out
    go_wp2_with (first | ((with_reducible refine gate_callee (f := 35) rfl ?_); refine goesL_ (some 29) rfl rfl Try.func35 (by kernel_rfl) rfl #[.slice A0_4 l0_4.length c0_4, .int .i64 (wrap64 ((wrap64 ((wrap64 (a1 - (a0_1.size : Int))) - (a0_2.size : Int))) - (a0_3.size : Int)))] rfl mA ?_; (with_reducible refine (laws_szDeclS.calls k _ _ l0_4 (wrap64 ((wrap64 ((wrap64 (a1 - (a0_1.size : Int))) - (a0_2.size : Int))) - (a0_3.size : Int))) t108 _ ?side1 ?side2 A10.out).mono ?_); (case side1 => repeat (first | exact (Kd.C_below HR0_4.out HB.out) | (with_reducible refine Kd.C_alloc ?_ _) | (with_reducible refine Kd.C_drewN ?_ _) | (with_reducible refine Kd.C_drew ?_))); (case side2 => exact HC0_4.out); rintro e w12 ⟨rfl, hb⟩; refine ⟨_, rfl, ?_⟩; replace BK107 := Aside0.mk (blk_below (g := gb107) (by (with_reducible repeat (first | refine bN ?_ _|refine bD ?_|refine bA ?_ _)); exact BK107.out) hb); replace HB := Aside0.mk (below_step hB hb); (try clear hb); (try clear hb2); (try clear hk); (try clear hi); refine halt_ ?_; intro q_ hq_))
    obtain ⟨rfl⟩ := hq_
    by_cases c13 : t108 < 0
    ·rw [if_pos c13] at H
     have c13b0 : decide (t108 < 0) = true := decide_eq_true c13
     clear c13
     obtain rfl := Option.some.inj H
     go_wp2
     go_ret
     exact ⟨rE, hB⟩
    ·rw [if_neg c13] at H
     have c13b0 : decide (t108 < 0) = false := decide_eq_false c13
     clear c13
     replace H := Option.bind_eq_some_iff.mp H
     obtain ⟨t109, A140, H⟩ := H
     try dsimp only at H
     have A14 := Aside0.mk A140
     clear A140
     obtain ⟨hcz15_0, hcz15_1, hcz15_2, hcz15_3, hcz15_4, hcz15_5, hcz15_6, hcz15_7⟩ := bc8 BK107.out
     go_wp2_with (first | ((with_reducible refine gate_callee (f := 36) rfl ?_); refine goesL_ (some 35) rfl rfl Try.func36 (by kernel_rfl) rfl #[.slice A0_5 l0_5.length c0_5, .int .i64 t108] rfl mA ?_; (with_reducible refine (laws_szAttrS.calls k _ _ l0_5 t108 t109 _ ?side1 ?side2 A14.out).mono ?_); (case side1 => repeat (first | exact (Kd.C_below HR0_5.out HB.out) | (with_reducible refine Kd.C_alloc ?_ _) | (with_reducible refine Kd.C_drewN ?_ _) | (with_reducible refine Kd.C_drew ?_))); (case side2 => exact HC0_5.out); rintro e w16 ⟨rfl, hb⟩; refine ⟨_, rfl, ?_⟩; replace BK107 := Aside0.mk (blk_below (g := gb107) (by (with_reducible repeat (first | refine bN ?_ _|refine bD ?_|refine bA ?_ _)); exact BK107.out) hb); replace HB := Aside0.mk (below_step hB hb); (try clear hb); (try clear hb2); (try clear hk); (try clear hi); refine halt_ ?_; intro q_ hq_))
     obtain ⟨rfl⟩ := hq_
     by_cases c17 : t109 < 0
     ·rw [if_pos c17] at H
      have c17b0 : decide (t109 < 0) = true := decide_eq_true c17
      clear c17
      obtain rfl := Option.some.inj H
      go_wp2
      go_ret
      exact ⟨rE, hB⟩
     ·rw [if_neg c17] at H
      have c17b0 : decide (t109 < 0) = false := decide_eq_false c17
      clear c17
      replace H := Option.bind_eq_some_iff.mp H
      obtain ⟨t110, A180, H⟩ := H
      try dsimp only at H
      have A18 := Aside0.mk A180
      clear A180
      obtain ⟨hcz19_0, hcz19_1, hcz19_2, hcz19_3, hcz19_4, hcz19_5, hcz19_6, hcz19_7⟩ := bc8 BK107.out
      go_wp2_with (first | ((with_reducible refine gate_callee (f := 17) rfl ?_); refine goesL_ (some 41) rfl rfl Try.func17 (by kernel_rfl) rfl #[.slice A0_6 l0_6.length c0_6, .int .i64 t109] rfl mA ?_; (with_reducible refine (hG_ _ _ l0_6 t109 t110 _ ?side1 ?side2 A18.out).mono ?_); (case side1 => repeat (first | exact (Kd.C_below HR0_6.out HB.out) | (with_reducible refine Kd.C_alloc ?_ _) | (with_reducible refine Kd.C_drewN ?_ _) | (with_reducible refine Kd.C_drew ?_))); (case side2 => exact HC0_6.out); rintro e w20 ⟨rfl, hb⟩; refine ⟨_, rfl, ?_⟩; replace BK107 := Aside0.mk (blk_below (g := gb107) (by (with_reducible repeat (first | refine bN ?_ _|refine bD ?_|refine bA ?_ _)); exact BK107.out) hb); replace HB := Aside0.mk (below_step hB hb); (try clear hb); (try clear hb2); (try clear hk); (try clear hi); refine halt_ ?_; intro q_ hq_))
      obtain ⟨rfl⟩ := hq_
      by_cases c21 : t110 < 0
      ·rw [if_pos c21] at H
       have c21b0 : decide (t110 < 0) = true := decide_eq_true c21
       clear c21
       obtain rfl := Option.some.inj H
       go_wp2
       go_ret
       exact ⟨rE, hB⟩
      ·rw [if_neg c21] at H
       have c21b0 : decide (t110 < 0) = false := decide_eq_false c21
       clear c21
       by_cases c22 : (wrap64 (t110 - (a0_7.size : Int))) < 0
       ·rw [if_pos c22] at H
        have c22b0 : decide ((wrap64 (t110 - (a0_7.size : Int))) < 0) = true := decide_eq_true c22
        clear c22
        obtain rfl := Option.some.inj H
        obtain ⟨hcz23_0, hcz23_1, hcz23_2, hcz23_3, hcz23_4, hcz23_5, hcz23_6, hcz23_7⟩ := bc8 BK107.out
        go_wp2
        go_ret
        exact ⟨rE, hB⟩
       ·rw [if_neg c22] at H
        have c22b0 : decide ((wrap64 (t110 - (a0_7.size : Int))) < 0) = false := decide_eq_false c22
        clear c22
        obtain rfl := Option.some.inj H
        obtain ⟨hcz24_0, hcz24_1, hcz24_2, hcz24_3, hcz24_4, hcz24_5, hcz24_6, hcz24_7⟩ := bc8 BK107.out
        go_wp2
        go_ret
        exact ⟨rE, hB⟩
/-! ### laws_szNodeS: function 17 -/
mutual
def laws_szNodeS.l0 : Nat → List (S26) → Int → Int → Option (Int)
 | 0, _, _, _ => none
 | k + 1, x0, x1, x5 => if x5 < (x0.length : Int) then (if 0 ≤ x5 then ((laws_szNode.F (fun y0_ y1_ => laws_szNodeS.f k y0_ y1_) k ((rd_T26 x0 x5).f0) ((rd_T26 x0 x5).f1) ((rd_T26 x0 x5).f2) ((rd_T26 x0 x5).f3) ((rd_T26 x0 x5).f4) ((rd_T26 x0 x5).f5) ((rd_T26 x0 x5).f6) ((rd_T26 x0 x5).f7) x1).bind fun t245 => (if t245 < 0 then (some (-1)) else (laws_szNodeS.l0 k x0 t245 (wrap64 (x5 + 1))))) else (none)) else (some x1)
def laws_szNodeS.f : Nat → List (S26) → Int → Option (Int)
 | 0, _, _ => none
 | k + 1, l0, a1 => if (wrap64 (a1 - (l0.length : Int))) < 0 then (some (-1)) else (laws_szNodeS.l0 k l0 (wrap64 (a1 - (l0.length : Int))) 0)
end
theorem laws_szNodeS.calls (k : Nat) : ∀ (A0 : Option Addr) (c0 : Nat) (l0 : List (S26)) (a1 : Int) (r : Int) (w : World) (hr0 : Kd.C k26 w A0 l0.length l0) (hc0 : l0.length ≤ c0) (h : laws_szNodeS.f k l0 a1 = some r),
  Calls Try.prog 17 #[.slice A0 l0.length c0, .int .i64 a1] w fun e w' => e = .returned (.int .i64 r) ∧ Below w.heap.size w w' := by
 induction k using Nat.strongRecOn with
 | _ k ih =>
 intro A0 c0 l0 a1 r w hr0 hc0 h
 cases k with
 | zero => exact absurd h (by simp [laws_szNodeS.f])
 | succ k =>
 simp only [laws_szNodeS.f] at h
 have hu26 := Try.underlying26
 have HR0 := Aside0.mk hr0
 have HC0 := Aside0.mk hc0
 clear hr0 hc0
 have HB := Aside0.mk (Below.refl w.heap.size w)
 have H : (if (wrap64 (a1 - (l0.length : Int))) < 0 then (some (-1)) else (laws_szNodeS.l0 k l0 (wrap64 (a1 - (l0.length : Int))) 0)) = some r := h
 clear h
 by_cases c3 : (wrap64 (a1 - (l0.length : Int))) < 0
 ·rw [if_pos c3] at H
  have c3b0 : decide ((wrap64 (a1 - (l0.length : Int))) < 0) = true := decide_eq_true c3
  clear c3
  obtain rfl := Option.some.inj H
  go_enter Try.func17, Try.ntmps17
  go_wp2
  go_ret
  exact ⟨rE, hB⟩
 ·rw [if_neg c3] at H
  have c3b0 : decide ((wrap64 (a1 - (l0.length : Int))) < 0) = false := decide_eq_false c3
  clear c3
  have H' := Aside0.mk H
  clear H
  go_enter Try.func17, Try.ntmps17
  go_wp2
  go_loopg [1, 5] k (fun kq v1 v5 w' => ∃ (x1_1 : Int) (x5_1 : Int), v1 = .int .i64 x1_1 ∧ v5 = .int .i64 x5_1 ∧ Aside0 (laws_szNodeS.l0 kq l0 x1_1 x5_1 = some r) ∧ Aside0 (kq ≤ k) ∧ Aside0 (Below w.heap.size w w'))
  case atStart => exact ⟨(wrap64 (a1 - (l0.length : Int))), (0), rG, rG, H', ⟨Nat.le_refl _⟩, ⟨hB⟩⟩
  case round =>
   clear H'
   try clear c3; try clear c3b0
   obtain ⟨x1_1, x5_1, rfl, rfl, HA, HK1, HB⟩ := hrel
   cases gk with
   | zero => exact absurd HA.out (by simp [laws_szNodeS.l0])
   | succ k1 =>
    have H := HA.out
    clear HA
    simp only [laws_szNodeS.l0] at H
    by_cases c4 : x5_1 < (l0.length : Int)
    ·rw [if_pos c4] at H
     have c4b0 : decide (x5_1 < (l0.length : Int)) = true := decide_eq_true c4
     clear c4
     obtain ⟨c5, H⟩ := if_som H
     have c5b0 : decide (0 ≤ x5_1) = true := decide_eq_true c5
     clear c5
     replace H := Option.bind_eq_some_iff.mp H
     obtain ⟨t245, A60, H⟩ := H
     try dsimp only at H
     have A6 := Aside0.mk A60
     clear A60
     have p244 : 0 ≤ (x5_1 : Int) := odt
     have q244 : x5_1 < (l0.length : Int) := odt
     obtain ⟨ad244, A244_4, c244_4, A244_5, c244_5, A244_6, c244_6, e244, hx244_0, hx244_1, hx244_2, hx244_3, hx244_4, hx244_5, hx244_6, hx244_7, hl244_4, hi244_4, hl244_5, hi244_5, hl244_6, hi244_6⟩ := at_T26 HR0.out x5_1 p244 q244
     cases e244
     replace hx244_0 := pw_cell_below HB.out hx244_0
     replace hx244_1 := pw_cell_below HB.out hx244_1
     replace hx244_2 := pw_cell_below HB.out hx244_2
     replace hx244_3 := pw_cell_below HB.out hx244_3
     replace hx244_4 := pw_cell_below HB.out hx244_4
     replace hx244_5 := pw_cell_below HB.out hx244_5
     replace hx244_6 := pw_cell_below HB.out hx244_6
     replace hx244_7 := pw_cell_below HB.out hx244_7
     have HR244_4 := Aside0.mk hi244_4
     have HC244_4 := Aside0.mk hl244_4
     clear hi244_4 hl244_4
     have HR244_5 := Aside0.mk hi244_5
     have HC244_5 := Aside0.mk hl244_5
     clear hi244_5 hl244_5
     have HR244_6 := Aside0.mk hi244_6
     have HC244_6 := Aside0.mk hl244_6
     clear hi244_6 hl244_6
     replace p244 := eq_true p244
     replace q244 := eq_true q244
     go_wp2_with (first | ((with_reducible refine gate_callee (f := 8) rfl ?_); refine goesL_ (some 23) rfl rfl Try.func8 (by kernel_rfl) rfl #[.agg #[.int .i64 ((rd_T26 l0 x5_1).f0), .string ((rd_T26 l0 x5_1).f1), .string ((rd_T26 l0 x5_1).f2), .string ((rd_T26 l0 x5_1).f3), .slice A244_4 ((rd_T26 l0 x5_1).f4).length c244_4, .slice A244_5 ((rd_T26 l0 x5_1).f5).length c244_5, .slice A244_6 ((rd_T26 l0 x5_1).f6).length c244_6, .string ((rd_T26 l0 x5_1).f7)], .int .i64 x1_1] rfl mA ?_; (with_reducible refine (laws_szNode.callsF (laws_szNodeS.f k1) (ih k1 (by first | omega | (have := HK1.out; omega))) k1 ((rd_T26 l0 x5_1).f0) ((rd_T26 l0 x5_1).f1) ((rd_T26 l0 x5_1).f2) ((rd_T26 l0 x5_1).f3) _ _ ((rd_T26 l0 x5_1).f4) _ _ ((rd_T26 l0 x5_1).f5) _ _ ((rd_T26 l0 x5_1).f6) ((rd_T26 l0 x5_1).f7) x1_1 t245 _ ?side1 ?side2 ?side3 ?side4 ?side5 ?side6 A6.out).mono ?_); (case side1 => repeat (first | exact (Kd.C_below HR244_4.out HB.out) | (with_reducible refine Kd.C_alloc ?_ _) | (with_reducible refine Kd.C_drewN ?_ _) | (with_reducible refine Kd.C_drew ?_))); (case side2 => exact HC244_4.out); (case side3 => repeat (first | exact (Kd.C_below HR244_5.out HB.out) | (with_reducible refine Kd.C_alloc ?_ _) | (with_reducible refine Kd.C_drewN ?_ _) | (with_reducible refine Kd.C_drew ?_))); (case side4 => exact HC244_5.out); (case side5 => repeat (first | exact (Kd.C_below HR244_6.out HB.out) | (with_reducible refine Kd.C_alloc ?_ _) | (with_reducible refine Kd.C_drewN ?_ _) | (with_reducible refine Kd.C_drew ?_))); (case side6 => exact HC244_6.out); rintro e w7 ⟨rfl, hb⟩; refine ⟨_, rfl, ?_⟩; replace HB := Aside0.mk (below_step hB hb); (try clear hb); (try clear hb2); (try clear hk); (try clear hi); refine halt_ ?_; intro q_ hq_))
     obtain ⟨rfl⟩ := hq_
     by_cases c8 : t245 < 0
     ·rw [if_pos c8] at H
      have c8b0 : decide (t245 < 0) = true := decide_eq_true c8
      clear c8
      obtain rfl := Option.some.inj H
      go_wp2
      go_ret
      exact ⟨rE, hB⟩
     ·rw [if_neg c8] at H
      have c8b0 : decide (t245 < 0) = false := decide_eq_false c8
      clear c8
      have H' := Aside0.mk H
      clear H
      go_wp2
      go_roundg k1
      case measure => have := HK1.out; omega
      case rel => exact ⟨(t245), (wrap64 (x5_1 + 1)), rG, rG, H', ⟨by have := HK1.out; omega⟩, ⟨hB⟩⟩
    ·rw [if_neg c4] at H
     have c4b0 : decide (x5_1 < (l0.length : Int)) = false := decide_eq_false c4
     clear c4
     obtain rfl := Option.some.inj H
     go_wp2
     go_ret
     exact ⟨rE, hB⟩
def laws_szNode.f (k : Nat) (a0_0 : Int) (a0_1 : ByteArray) (a0_2 : ByteArray) (a0_3 : ByteArray) (l0_4 : List (S84)) (l0_5 : List (S87)) (l0_6 : List (S26)) (a0_7 : ByteArray) (a1 : Int) : Option (Int) := laws_szNode.F (laws_szNodeS.f k) k a0_0 a0_1 a0_2 a0_3 l0_4 l0_5 l0_6 a0_7 a1
theorem laws_szNode.calls (k : Nat) (a0_0 : Int) (a0_1 : ByteArray) (a0_2 : ByteArray) (a0_3 : ByteArray) (A0_4 : Option Addr) (c0_4 : Nat) (l0_4 : List (S84)) (A0_5 : Option Addr) (c0_5 : Nat) (l0_5 : List (S87)) (A0_6 : Option Addr) (c0_6 : Nat) (l0_6 : List (S26)) (a0_7 : ByteArray) (a1 : Int) (r : Int) (w : World) (hr0_4 : Kd.C k84 w A0_4 l0_4.length l0_4) (hc0_4 : l0_4.length ≤ c0_4) (hr0_5 : Kd.C k87 w A0_5 l0_5.length l0_5) (hc0_5 : l0_5.length ≤ c0_5) (hr0_6 : Kd.C k26 w A0_6 l0_6.length l0_6) (hc0_6 : l0_6.length ≤ c0_6) (h : laws_szNode.f k a0_0 a0_1 a0_2 a0_3 l0_4 l0_5 l0_6 a0_7 a1 = some r) :
  Calls Try.prog 8 #[.agg #[.int .i64 a0_0, .string a0_1, .string a0_2, .string a0_3, .slice A0_4 l0_4.length c0_4, .slice A0_5 l0_5.length c0_5, .slice A0_6 l0_6.length c0_6, .string a0_7], .int .i64 a1] w fun e w' => e = .returned (.int .i64 r) ∧ Below w.heap.size w w' := laws_szNode.callsF (laws_szNodeS.f k) (laws_szNodeS.calls k) k a0_0 a0_1 a0_2 a0_3 A0_4 c0_4 l0_4 A0_5 c0_5 l0_5 A0_6 c0_6 l0_6 a0_7 a1 r w hr0_4 hc0_4 hr0_5 hc0_5 hr0_6 hc0_6 h

end Go.Proofs.Ytdbinpeglamnnaa.PP
