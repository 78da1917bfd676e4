-- Written by the session's program hprint.py, over the kit's print program. Lean checks it.
import Derived.Test.YtdbinpeglamnnaaPPx0
import Derived.Test.YtdbinpeglamnnaaPPx1
import Derived.Test.YtdbinpeglamnnaaPPx2
namespace Go.Proofs.Ytdbinpeglamnnaa.PP
open Go.RowKit Go.Proofs.YtdbinpeglamnnaaW.PrintWords Go.Proofs.YtdbinpeglamnnaaW.PrintLast Go.Proofs.YtdbinpeglamnnaaW.PrintMore
attribute [local go_sem] max2_int min2_int max_two min_two max_three min_three max_four min_four   -- for this text's walks alone
set_option linter.unusedVariables false
set_option linter.unusedSimpArgs false
set_option maxHeartbeats 8000000
set_option maxRecDepth 100000

/-! ### deep: trees of the call's own, no two rows of which are one -/
theorem F34_mk (d : Kd S34) (w : World) (x : S34) {A4 : Option Addr} {c4 : Nat} (l4 : x.f4.length ≤ c4) (g4 : k88.C w A4 x.f4.length x.f4) {A5 : Option Addr} {c5 : Nat} (l5 : x.f5.length ≤ c5) (g5 : k90.C w A5 x.f5.length x.f5) {A6 : Option Addr} {c6 : Nat} (l6 : x.f6.length ≤ c6) (g6 : d.C w A6 x.f6.length x.f6) :
    (F34 d).K w x [.int .i64 x.f0, .string x.f1, .string x.f2, .string x.f3, .slice A4 x.f4.length c4, .slice A5 x.f5.length c5, .slice A6 x.f6.length c6, .string x.f7] :=
  ⟨[.int .i64 x.f0], [.string x.f1, .string x.f2, .string x.f3, .slice A4 x.f4.length c4, .slice A5 x.f5.length c5, .slice A6 x.f6.length c6, .string x.f7], rfl, rfl, ⟨[.string x.f1], [.string x.f2, .string x.f3, .slice A4 x.f4.length c4, .slice A5 x.f5.length c5, .slice A6 x.f6.length c6, .string x.f7], rfl, rfl, ⟨[.string x.f2], [.string x.f3, .slice A4 x.f4.length c4, .slice A5 x.f5.length c5, .slice A6 x.f6.length c6, .string x.f7], rfl, rfl, ⟨[.string x.f3], [.slice A4 x.f4.length c4, .slice A5 x.f5.length c5, .slice A6 x.f6.length c6, .string x.f7], rfl, rfl, ⟨[.slice A4 x.f4.length c4], [.slice A5 x.f5.length c5, .slice A6 x.f6.length c6, .string x.f7], rfl, ⟨A4, c4, rfl, l4, g4⟩, ⟨[.slice A5 x.f5.length c5], [.slice A6 x.f6.length c6, .string x.f7], rfl, ⟨A5, c5, rfl, l5, g5⟩, ⟨[.slice A6 x.f6.length c6], [.string x.f7], rfl, ⟨A6, c6, rfl, l6, g6⟩, rfl⟩⟩⟩⟩⟩⟩⟩
/-- A node whose rows are told apart: the blocks of what hangs below are in ok. -/
@[reducible] def DN (d : Kd S34) (w : World) (base : Nat) (ok : Nat → Prop) (x : S34) (v4 v5 v6 : Value) (o6 : Nat → Prop) : Prop :=
  k88.R 88 w base (fun k => some k = v4.ownBlock) v4 x.f4 ∧ k90.R 90 w base (fun k => some k = v5.ownBlock) v5 x.f5 ∧ Kd.S d 34 w base o6 v6 x.f6 ∧ (∀ k, some k = v4.ownBlock → ok k) ∧ (∀ k, some k = v5.ownBlock → ok k) ∧ (∀ k, o6 k → ok k ∧ some k ≠ v4.ownBlock ∧ some k ≠ v5.ownBlock)
def cN (x : S34) (v4 v5 v6 : Value) : List Value := [.int .i64 x.f0, .string x.f1, .string x.f2, .string x.f3, v4, v5, v6, .string x.f7]
def D34 (d : Kd S34) : Kd S34 where
  sz := 8
  E := 88 :: 90 :: 34 :: d.E
  K := (F34 d).K
  M := fun w base ok x cs => ∃ v4 v5 v6 o6, cs = cN x v4 v5 v6 ∧ DN d w base ok x v4 v5 v6 o6
  K_len := fun h => (F34 d).K_len h
  K_one := fun h => (F34 d).K_one h
  K_below := fun hb h => (F34 d).K_below hb h
  K_of_M := by
    rintro w base ok x cs ⟨v4, v5, v6, o6, rfl, h4, h5, h6, -⟩
    obtain ⟨A4, c4, rfl, l4, g4⟩ := Kd.R_reads h4
    obtain ⟨A5, c5, rfl, l5, g5⟩ := Kd.R_reads h5
    obtain ⟨A6, c6, rfl, l6, g6⟩ := Kd.S_reads h6
    exact F34_mk d w x l4 g4 l5 g5 l6 g6
  M_mono := by
    rintro w base ok ok' x cs hok ⟨v4, v5, v6, o6, rfl, h4, h5, h6, a4, a5, a6⟩
    exact ⟨v4, v5, v6, o6, rfl, h4, h5, h6, fun k hk => hok k (a4 k hk), fun k hk => hok k (a5 k hk), fun k hk => ⟨hok k (a6 k hk).1, (a6 k hk).2⟩⟩
  M_bound := by
    rintro w base ok x cs ⟨v4, v5, v6, o6, rfl, h4, h5, h6, a4, a5, a6⟩
    refine ⟨v4, v5, v6, _, rfl, h4, h5, Kd.S_bound h6, fun k hk => ?_, fun k hk => ?_, fun k hk => ?_⟩
    · obtain ⟨cells, hc⟩ := Kd.R_typed h4 k hk.symm
      exact ⟨a4 k hk, Kd.R_base h4 k hk.symm, Kd.R_lt h4 k hk.symm, 88, by simp, cells, hc⟩
    · obtain ⟨cells, hc⟩ := Kd.R_typed h5 k hk.symm
      exact ⟨a5 k hk, Kd.R_base h5 k hk.symm, Kd.R_lt h5 k hk.symm, 90, by simp, cells, hc⟩
    · obtain ⟨h1, h2, h3, q, hq, hc⟩ := hk
      exact ⟨⟨(a6 k h1).1, h2, h3, q, List.mem_cons_of_mem _ (List.mem_cons_of_mem _ hq), hc⟩, (a6 k h1).2⟩
  M_move := by
    rintro w w1 base ok x cs hm ⟨v4, v5, v6, o6, rfl, h4, h5, h6, a4, a5, a6⟩
    exact ⟨v4, v5, v6, o6, rfl, Kd.R_move h4 (fun k hk => hm k (a4 k hk)), Kd.R_move h5 (fun k hk => hm k (a5 k hk)), Kd.S_move h6 (fun k hk => hm k (a6 k hk).1), a4, a5, a6⟩
  M_lower := by
    rintro w base base' ok x cs hb ⟨v4, v5, v6, o6, rfl, h4, h5, h6, a4, a5, a6⟩
    exact ⟨v4, v5, v6, o6, rfl, Kd.R_lower h4 hb, Kd.R_lower h5 hb, Kd.S_lower h6 hb, a4, a5, a6⟩
theorem S_imp_ {α : Type} {d d' : Kd α} (hs : d.sz = d'.sz) (hM : ∀ w base ok x cs, d.M w base ok x cs → d'.M w base ok x cs) {e : Nat} {w : World} {base : Nat} {ok : Nat → Prop} {v : Value} {xs : List α} (h : Kd.S d e w base ok v xs) : Kd.S d' e w base ok v xs := by
  obtain ⟨f, h⟩ := h
  exact ⟨f, Kd.R_imp (d := Kd.tag f d) (d' := Kd.tag f d') hs (fun w base ok x cs hp => hM w base _ _ cs hp) h⟩
theorem monoD : Kd.Mono D34 := ⟨fun _ _ _ => rfl, fun d d' hs h w x cs hk => mono34.K d d' hs h w x cs hk, fun d d' hs h w base ok x cs ⟨v4, v5, v6, o6, e, h4, h5, h6, a⟩ => ⟨v4, v5, v6, o6, e, h4, h5, S_imp_ hs h h6, a⟩⟩
theorem subD : Kd.Sub D34 [34, 90, 88] := fun d h q hq => by
  rcases List.mem_cons.1 hq with rfl | hq
  · simp
  rcases List.mem_cons.1 hq with rfl | hq
  · simp
  rcases List.mem_cons.1 hq with rfl | hq
  · simp
  · exact h q hq
theorem szD : ∀ n, (Kd.upto D34 8 [34, 90, 88] n).sz = 8 := Kd.upto_sz (fun _ => rfl)
def kD : Kd S34 := Kd.fix D34 8 [34, 90, 88] szD (Kd.upto_E subD)
theorem kD_S {n : Nat} {w : World} {base : Nat} {ok : Nat → Prop} {v : Value} {xs : List S34} (h : Kd.S (Kd.upto D34 8 [34, 90, 88] n) 34 w base ok v xs) : Kd.S kD 34 w base ok v xs :=
  S_imp_ (d := Kd.upto D34 8 [34, 90, 88] n) (d' := kD) (szD n) (fun w base ok x cs h => (⟨n, h⟩ : ∃ n, (Kd.upto D34 8 [34, 90, 88] n).M w base ok x cs)) h
theorem kD_back {w : World} {base : Nat} {ok : Nat → Prop} {v : Value} {xs : List S34} (h : Kd.S kD 34 w base ok v xs) : ∃ n, Kd.S (Kd.upto D34 8 [34, 90, 88] n) 34 w base ok v xs := by
  obtain ⟨f, h0, inner, ho, hr⟩ := h
  obtain ⟨N, hN⟩ := Kd.reps_bounded (R := fun n (p : S34 × Nat) c => (Kd.upto D34 8 [34, 90, 88] n).M w base (fun k => (ok k ∧ some k ≠ v.ownBlock) ∧ f k = p.2) p.1 c) (fun n m p c hnm hp => Kd.upto_M_le monoD szD hnm hp) hr
  refine ⟨N, f, h0, inner, ?_, ?_⟩
  · show World.ownsRow w base 34 (Kd.upto D34 8 [34, 90, 88] N).sz v _ inner
    rw [szD N]; exact ho
  · show Reps _ (Kd.upto D34 8 [34, 90, 88] N).sz _ inner
    rw [szD N]; exact hN
theorem kD_open {w : World} {base : Nat} {ok : Nat → Prop} {x : S34} {cs : List Value} (h : kD.M w base ok x cs) : ∃ v4 v5 v6 o6, cs = cN x v4 v5 v6 ∧ DN kD w base ok x v4 v5 v6 o6 := by
  obtain ⟨n, h⟩ := h
  cases n with
  | zero => exact h.elim
  | succ n =>
    obtain ⟨v4, v5, v6, o6, rfl, h4, h5, h6, a⟩ := h
    exact ⟨v4, v5, v6, o6, rfl, h4, h5, kD_S h6, a⟩
theorem kD_mk {w : World} {base : Nat} {ok : Nat → Prop} {x : S34} {v4 v5 v6 : Value} {o6 : Nat → Prop} (h : DN kD w base ok x v4 v5 v6 o6) : kD.M w base ok x (cN x v4 v5 v6) := by
  obtain ⟨h4, h5, h6, a⟩ := h
  obtain ⟨n, h6⟩ := kD_back h6
  exact ⟨n + 1, v4, v5, v6, o6, rfl, h4, h5, h6, a⟩
theorem upto_KD {E : List Nat} : ∀ n {w : World} {x : S34} {cs : List Value}, (Kd.upto D34 8 [34, 90, 88] n).K w x cs → (Kd.upto F34 8 E n).K w x cs
  | 0, _, _, _, h => h.elim
  | n + 1, _, _, _, h => mono34.K _ _ (by rw [szD n, Kd.upto_sz (F := F34) (fun _ => rfl) n]) (fun _ _ _ hk => upto_KD n hk) _ _ _ h
theorem upto_MD : ∀ n {w : World} {base : Nat} {ok : Nat → Prop} {x : S34} {cs : List Value}, (Kd.upto D34 8 [34, 90, 88] n).M w base ok x cs → k34.M w base ok x cs
  | 0, _, _, _, _, _, h => h.elim
  | n + 1, w, base, ok, x, _, ⟨v4, v5, v6, o6, e, h4, h5, h6, a4, a5, a6⟩ => by
    subst e
    exact k34_mkM _ _ _ x (Kd.R_mono h4 (fun k hk => a4 k hk)) (Kd.R_mono h5 (fun k hk => a5 k hk)) (Kd.R_mono (Kd.R_imp (d := Kd.upto D34 8 [34, 90, 88] n) (d' := k34) (szD n) (fun w base ok x cs hp => upto_MD n hp) (Kd.S_R h6)) (fun k hk => (a6 k hk).1))
theorem kD_K {w : World} {x : S34} {cs : List Value} (h : kD.K w x cs) : k34.K w x cs := by
  obtain ⟨n, h⟩ := h
  exact ⟨n, upto_KD n h⟩
theorem kD_C {w : World} {A : Option Addr} {n : Nat} {xs : List S34} (h : kD.C w A n xs) : k34.C w A n xs := Kd.C_imp (d := kD) (d' := k34) rfl (fun _ _ _ hp => kD_K hp) h
theorem kD_R {w : World} {base : Nat} {ok : Nat → Prop} {v : Value} {xs : List S34} (h : Kd.S kD 34 w base ok v xs) : ∃ A c, v = .slice A xs.length c ∧ xs.length ≤ c ∧ k34.C w A xs.length xs := by
  obtain ⟨A, c, e, l, g⟩ := Kd.S_reads h
  exact ⟨A, c, e, l, kD_C g⟩
theorem kD_toR {w : World} {base : Nat} {ok : Nat → Prop} {v : Value} {xs : List S34} (h : Kd.S kD 34 w base ok v xs) : k34.R 34 w base ok v xs :=
  Kd.R_imp (d := kD) (d' := k34) rfl (fun _ _ _ _ _ ⟨n, hp⟩ => upto_MD n hp) (Kd.S_R h)
/-! #### an element of such a row, lent -/
section
variable {W W1 : World} {base g n cap : Nat} {ok oki P : Nat → Prop} {ys zs : List S34} {x : S34} {v4 v5 v6 : Value} {o6 : Nat → Prop}
theorem setA (ys zs : List S34) (x x' : S34) : (ys ++ x :: zs).set ((ys.length : Int)).toNat x' = ys ++ x' :: zs := by simp
theorem kD_elem (h : Kd.S kD 34 W base ok (.slice (some ⟨g, 0, none⟩) n cap) (ys ++ x :: zs)) :
    ∃ oki v4 v5 v6 o6, (∀ j u, (cN x v4 v5 v6)[j]? = some u → W.cell? ⟨g, ys.length * 8 + j, none⟩ = some u) ∧ (∀ j, W.frozen? ⟨g, ys.length * 8 + j, none⟩ = false) ∧ DN kD W base oki x v4 v5 v6 o6 ∧ (∀ k, oki k → ok k ∧ k ≠ g) ∧ Kd.H kD 34 W base ok (.slice (some ⟨g, 0, none⟩) n cap) (ys ++ x :: zs) (ys.length : Int) oki (cN x v4 v5 v6) := by
  have hn := (Kd.S_reads' h).1
  rw [List.length_append, List.length_cons] at hn
  obtain ⟨oki, c, _, hM, hc, hf, hk, hH⟩ := Kd.S_elem h z34 (ys.length : Int) (by omega) (by omega)
  rw [Int.toNat_natCast, show (ys ++ x :: zs).getD ys.length z34 = x by simp [List.getD]] at hM
  obtain ⟨v4, v5, v6, o6, rfl, hD⟩ := kD_open hM
  exact ⟨oki, v4, v5, v6, o6, hc, hf, hD, hk, hH⟩
theorem kD_in4 (hH : Kd.H kD 34 W base ok (.slice (some ⟨g, 0, none⟩) n cap) (ys ++ x :: zs) (ys.length : Int) oki (cN x v4 v5 v6)) (hD : DN kD W base oki x v4 v5 v6 o6) (hk : Kept W W1 (fun k => some k = v4.ownBlock)) {d : List S88} (hR : k88.R 88 W1 base P v4 d) :
    Kd.S kD 34 W1 base ok (.slice (some ⟨g, 0, none⟩) n cap) (ys ++ ⟨x.f0, x.f1, x.f2, x.f3, d, x.f5, x.f6, x.f7⟩ :: zs) := by
  obtain ⟨h4, h5, h6, a4, a5, a6⟩ := hD
  rw [← setA ys zs x]
  refine Kd.H_back (okp := oki) (Kd.H_kept hH hk (fun k _ hn he => hn (a4 k he))) (kD_mk (x := ⟨x.f0, x.f1, x.f2, x.f3, d, x.f5, x.f6, x.f7⟩) ⟨Kd.R_tight rfl hR, Kd.R_kept h5 hk (fun k h1 h2 => ?_), Kd.S_kept h6 hk (fun k h1 => (a6 k h1).2.1), a4, a5, a6⟩) (fun _ hk => hk)
  obtain ⟨c1, e1⟩ := Kd.R_typed h4 k h2.symm
  obtain ⟨c2, e2⟩ := Kd.R_typed h5 k h1.symm
  rw [e1] at e2
  cases e2
theorem kD_in5 (hH : Kd.H kD 34 W base ok (.slice (some ⟨g, 0, none⟩) n cap) (ys ++ x :: zs) (ys.length : Int) oki (cN x v4 v5 v6)) (hD : DN kD W base oki x v4 v5 v6 o6) (hk : Kept W W1 (fun k => some k = v5.ownBlock)) {d : List S90} (hR : k90.R 90 W1 base P v5 d) :
    Kd.S kD 34 W1 base ok (.slice (some ⟨g, 0, none⟩) n cap) (ys ++ ⟨x.f0, x.f1, x.f2, x.f3, x.f4, d, x.f6, x.f7⟩ :: zs) := by
  obtain ⟨h4, h5, h6, a4, a5, a6⟩ := hD
  rw [← setA ys zs x]
  refine Kd.H_back (okp := oki) (Kd.H_kept hH hk (fun k _ hn he => hn (a5 k he))) (kD_mk (x := ⟨x.f0, x.f1, x.f2, x.f3, x.f4, d, x.f6, x.f7⟩) ⟨Kd.R_kept h4 hk (fun k h1 h2 => ?_), Kd.R_tight rfl hR, Kd.S_kept h6 hk (fun k h1 => (a6 k h1).2.2), a4, a5, a6⟩) (fun _ hk => hk)
  obtain ⟨c1, e1⟩ := Kd.R_typed h4 k h1.symm
  obtain ⟨c2, e2⟩ := Kd.R_typed h5 k h2.symm
  rw [e1] at e2
  cases e2
theorem kD_in6 (hH : Kd.H kD 34 W base ok (.slice (some ⟨g, 0, none⟩) n cap) (ys ++ x :: zs) (ys.length : Int) oki (cN x v4 v5 v6)) (hD : DN kD W base oki x v4 v5 v6 o6) (hk : Kept W W1 o6) {d : List S34} (hR : Kd.S kD 34 W1 base o6 v6 d) :
    Kd.S kD 34 W1 base ok (.slice (some ⟨g, 0, none⟩) n cap) (ys ++ ⟨x.f0, x.f1, x.f2, x.f3, x.f4, x.f5, d, x.f7⟩ :: zs) := by
  obtain ⟨h4, h5, h6, a4, a5, a6⟩ := hD
  rw [← setA ys zs x]
  exact Kd.H_back (okp := oki) (Kd.H_kept hH hk (fun k _ hn he => hn (a6 k he).1)) (kD_mk (x := ⟨x.f0, x.f1, x.f2, x.f3, x.f4, x.f5, d, x.f7⟩) ⟨Kd.R_kept h4 hk (fun k h1 h2 => (a6 k h2).2.1 h1), Kd.R_kept h5 hk (fun k h1 h2 => (a6 k h2).2.2 h1), hR, a4, a5, a6⟩) (fun _ hk => hk)
theorem kD_put (hH : Kd.H kD 34 W base ok (.slice (some ⟨g, 0, none⟩) n cap) (ys ++ x :: zs) (ys.length : Int) oki (cN x v4 v5 v6)) (hD : DN kD W base oki x v4 v5 v6 o6) (hk : ∀ k, oki k → ok k ∧ k ≠ g) (hl : ys.length < n) (j : Nat) (u : Value) (hu : u.oneCell' = true) (hj : j + 1 ≤ 8)
    (x' : S34) (hx : (cN x v4 v5 v6).take j ++ [u] ++ (cN x v4 v5 v6).drop (j + 1) = cN x' v4 v5 v6) (h4 : x'.f4 = x.f4) (h5 : x'.f5 = x.f5) (h6 : x'.f6 = x.f6) :
    Kd.S kD 34 (W.setCell ⟨g, ys.length * 8 + j, none⟩ u) base ok (.slice (some ⟨g, 0, none⟩) n cap) (ys ++ x' :: zs) ∧ W.grownBy (W.setCell ⟨g, ys.length * 8 + j, none⟩ u) (some g) := by
  obtain ⟨h1, h2⟩ := Kd.H_seg hH (by omega) (by omega) (seg := [u]) (j := j) hj (fun q hq => by rw [List.mem_singleton.1 hq]; exact hu)
  rw [show ((ys.length : Int)).toNat = ys.length from Int.toNat_natCast _] at h1 h2
  have hM : kD.M W base oki x' (cN x' v4 v5 v6) := kD_mk (by unfold DN at hD ⊢; rw [h4, h5, h6]; exact hD)
  refine ⟨?_, h2⟩
  have h3 := Kd.H_back h1 (x' := x') (okp := oki) (by rw [show [u].length = 1 from rfl, hx]; exact Kd.M_step hM (fun k hk2 hlt => h2.block k hlt (fun he => (hk k hk2).2 (by injection he)))) (fun _ h => h)
  rw [setA] at h3
  exact h3
end
theorem kD_zero (W : World) (base : Nat) (ok : Nat → Prop) : kD.M W base ok z34 [.int .i64 0, .string ⟨#[]⟩, .string ⟨#[]⟩, .string ⟨#[]⟩, .slice none 0 0, .slice none 0 0, .slice none 0 0, .string ⟨#[]⟩] :=
  kD_mk (x := z34) (v4 := .slice none 0 0) (v5 := .slice none 0 0) (v6 := .slice none 0 0) (o6 := fun _ => False) ⟨Kd.R_nil _ _ _ _ _, Kd.R_nil _ _ _ _ _, Kd.S_nil _ _ _ _ _, fun k hk => by simp [Value.ownBlock] at hk, fun k hk => by simp [Value.ownBlock] at hk, fun k hk => hk.elim⟩
theorem kD_put8 {W : World} {base N g n cap : Nat} {xs : List S34} (h : Kd.S kD 34 W base (fun k => k < N) (.slice (some ⟨g, 0, none⟩) n cap) xs) (hb : base ≤ N) (i : Int) (h0 : 0 ≤ i) (h1 : i < n) (x : S34) {v4 v5 v6 : Value} (h4 : k88.R 88 W N (fun _ => True) v4 x.f4) (h5 : k90.R 90 W N (fun _ => True) v5 x.f5) (h6 : Kd.S kD 34 W N (fun k => some k ≠ v4.ownBlock ∧ some k ≠ v5.ownBlock) v6 x.f6) :
    Kd.S kD 34 (W.setCells g (i.toNat * 8 + 0) [.int .i64 x.f0, .string x.f1, .string x.f2, .string x.f3, v4, v5, v6, .string x.f7]) base (fun _ => True) (.slice (some ⟨g, 0, none⟩) n cap) (xs.set i.toNat x) ∧ W.grownBy (W.setCells g (i.toNat * 8 + 0) [.int .i64 x.f0, .string x.f1, .string x.f2, .string x.f3, v4, v5, v6, .string x.f7]) (some g) := by
  have hgN : g < N := (Kd.S_R h).1 g rfl
  obtain ⟨oki, c, hcl, _, _, _, _, hH⟩ := Kd.S_elem (Kd.S_mono h (ok' := fun k => True ∧ ¬ N ≤ k) (fun k hk => ⟨trivial, by omega⟩)) z34 i h0 h1
  have hM : kD.M W base (fun k => N ≤ k) x (cN x v4 v5 v6) := kD_mk (o6 := fun k => (some k ≠ v4.ownBlock ∧ some k ≠ v5.ownBlock) ∧ N ≤ k)
    ⟨Kd.R_lower (Kd.R_tight rfl h4) hb, Kd.R_lower (Kd.R_tight rfl h5) hb, Kd.S_lower (Kd.S_mono (Kd.S_bound h6) (fun k hk => ⟨hk.1, hk.2.1⟩)) hb, fun k hk => Kd.R_base h4 k hk.symm, fun k hk => Kd.R_base h5 k hk.symm, fun k hk => ⟨hk.2, hk.1⟩⟩
  have hc8 : c.drop 8 = [] := List.drop_eq_nil_of_le (by rw [hcl]; exact Nat.le_refl _)
  refine Kd.S_seg (okg := fun k => N ≤ k) (ok := fun _ => True) hH h0 h1 (seg := [.int .i64 x.f0, .string x.f1, .string x.f2, .string x.f3, v4, v5, v6, .string x.f7]) (j := 0) (by show 8 ≤ 8; omega) (okp := fun k => N ≤ k) (x' := x) ?_ (fun k hk => .inr hk) (fun k hk => ⟨trivial, by omega⟩)
  show kD.M W base _ x (c.take 0 ++ _ ++ c.drop 8)
  rw [hc8, List.take_zero, List.nil_append, List.append_nil]
  exact hM
/-- A tree told at W2, later: nothing below its end has been written since. -/
theorem DN_later {W2 W : World} {base N : Nat} {x : S34} {v4 v5 v6 : Value} (hb : base ≤ N) (h4 : k88.R 88 W2 N (fun _ => True) v4 x.f4) (h5 : k90.R 90 W2 N (fun _ => True) v5 x.f5) (h6 : Kd.S kD 34 W2 N (fun k => some k ≠ v4.ownBlock ∧ some k ≠ v5.ownBlock) v6 x.f6) (hB : Below W2.heap.size W2 W) :
    DN kD W base (fun k => N ≤ k ∧ k < W2.heap.size) x v4 v5 v6 (fun k => (some k ≠ v4.ownBlock ∧ some k ≠ v5.ownBlock) ∧ N ≤ k ∧ k < W2.heap.size) :=
  ⟨Kd.R_lower (Kd.R_below (Kd.R_tight rfl h4) hB) hb, Kd.R_lower (Kd.R_below (Kd.R_tight rfl h5) hB) hb, Kd.S_lower (Kd.S_below (Kd.S_mono (Kd.S_bound h6) (fun k hk => ⟨hk.1, hk.2.1, hk.2.2.1⟩)) hB) hb,
    fun k hk => ⟨Kd.R_base h4 k hk.symm, Kd.R_lt h4 k hk.symm⟩, fun k hk => ⟨Kd.R_base h5 k hk.symm, Kd.R_lt h5 k hk.symm⟩, fun k hk => ⟨hk.2, hk.1⟩⟩
theorem R_keptOwn {α : Type} {d : Kd α} {e : Nat} {W W2 : World} {base : Nat} {ok S : Nat → Prop} {v : Value} {xs : List α} (h : d.R e W base ok v xs) (hE : d.E = []) (hk : Kept W W2 S) (hne : ∀ k, some k = v.ownBlock → ¬ S k) : d.R e W2 base ok v xs :=
  Kd.R_mono (Kd.R_kept (Kd.R_tight hE h) hk hne) (fun k hk => h.1 k hk.symm)
theorem kD_elemM {W : World} {base N : Nat} (hb : base ≤ N) (x : S34) {v4 v5 v6 : Value} (h4 : k88.R 88 W N (fun _ => True) v4 x.f4) (h5 : k90.R 90 W N (fun _ => True) v5 x.f5) (h6 : Kd.S kD 34 W N (fun k => some k ≠ v4.ownBlock ∧ some k ≠ v5.ownBlock) v6 x.f6) : kD.M W base (fun k => N ≤ k) x (cN x v4 v5 v6) :=
  kD_mk (o6 := fun k => (some k ≠ v4.ownBlock ∧ some k ≠ v5.ownBlock) ∧ N ≤ k)
    ⟨Kd.R_lower (Kd.R_tight rfl h4) hb, Kd.R_lower (Kd.R_tight rfl h5) hb, Kd.S_lower (Kd.S_mono (Kd.S_bound h6) (fun k hk => ⟨hk.1, hk.2.1⟩)) hb, fun k hk => Kd.R_base h4 k hk.symm, fun k hk => Kd.R_base h5 k hk.symm, fun k hk => ⟨hk.2, hk.1⟩⟩
theorem kD_seg7 {W : World} {base g n cap : Nat} {ok : Nat → Prop} {xs : List S34} (h : Kd.S kD 34 W base ok (.slice (some ⟨g, 0, none⟩) n cap) xs) (i : Int) (h0 : 0 ≤ i) (h1 : i < n) (s : ByteArray) :
    Kd.S kD 34 (W.setCells g (i.toNat * 8 + 7) [.string s]) base ok (.slice (some ⟨g, 0, none⟩) n cap) (xs.set i.toNat (⟨(rd_T34 xs i).f0, (rd_T34 xs i).f1, (rd_T34 xs i).f2, (rd_T34 xs i).f3, (rd_T34 xs i).f4, (rd_T34 xs i).f5, (rd_T34 xs i).f6, s⟩ : S34)) := by
  obtain ⟨oki, c, _, hM, hc, hf, hk, hH⟩ := Kd.S_elem h z34 i h0 h1
  obtain ⟨v4, v5, v6, o6, rfl, hD⟩ := kD_open hM
  obtain ⟨h2, h3⟩ := Kd.H_seg hH h0 h1 (seg := [.string s]) (j := 7) (by show 8 ≤ 8; omega) (fun q hq => by rw [List.mem_singleton.1 hq]; rfl)
  have hM2 : kD.M W base oki (⟨(rd_T34 xs i).f0, (rd_T34 xs i).f1, (rd_T34 xs i).f2, (rd_T34 xs i).f3, (rd_T34 xs i).f4, (rd_T34 xs i).f5, (rd_T34 xs i).f6, s⟩ : S34) (cN (⟨(rd_T34 xs i).f0, (rd_T34 xs i).f1, (rd_T34 xs i).f2, (rd_T34 xs i).f3, (rd_T34 xs i).f4, (rd_T34 xs i).f5, (rd_T34 xs i).f6, s⟩ : S34) v4 v5 v6) := kD_mk hD
  exact Kd.H_back h2 (okp := oki) (Kd.M_step hM2 (fun k hk2 hlt => h3.block k hlt (fun he => (hk k hk2).2 (by injection he)))) (fun _ h => h)
/-! ### laws_toNode: function 10 -/
def laws_toNode.F (G_ : List (S26) → Option ((List (S34)))) (k : Nat) (a0_0 : Int) (a0_1 : ByteArray) (a0_2 : ByteArray) (a0_3 : ByteArray) (l0_4 : List (S84)) (l0_5 : List (S87)) (l0_6 : List (S26)) (a0_7 : ByteArray) : Option (Int × ByteArray × ByteArray × ByteArray × (List (S88)) × (List (S90)) × (List (S34)) × ByteArray) := (laws_toDeclS.f k l0_4).bind fun t169 => ((laws_toAttrS.f k l0_5).bind fun t172 => ((G_ l0_6).bind fun t175 => (some (a0_0, a0_1, a0_2, a0_3, t169, t172, t175, a0_7))))
theorem laws_toNode.monoF {G_ G2_ : List (S26) → Option ((List (S34)))} (hG_ : ∀ y0_, LeO (G_ y0_) (G2_ y0_)) : ∀ a0 a1 a2 a3 a4 a5 a6 a7 k, LeO (laws_toNode.F G_ k a0 a1 a2 a3 a4 a5 a6 a7) (laws_toNode.F G2_ (k + 1) a0 a1 a2 a3 a4 a5 a6 a7) := by
 intro a0 a1 a2 a3 a4 a5 a6 a7 k
 unfold laws_toNode.F
 repeat' first
   | (with_reducible exact laws_toAttrS.mono _ _)
   | (with_reducible exact laws_toDeclS.mono _ _)
   | (with_reducible exact hG_ _)
   | (with_reducible exact LeO.refl _)
   | (with_reducible exact LeO.none _)
   | (with_reducible refine LeO.ite ?_ ?_)
   | (with_reducible refine LeO.bind ?_ (fun _ => ?_))
   | exact laws_toAttrS.mono _ _
   | exact laws_toDeclS.mono _ _
   | exact hG_ _
   | exact LeO.none _
   | refine LeO.ite ?_ ?_
   | refine LeO.bind ?_ (fun _ => ?_)
theorem laws_toNode.callsF (G_ : List (S26) → Option ((List (S34)))) (hG_ : ∀ (A0 : Option Addr) (c0 : Nat) (l0 : List (S26)) (r : List (S34)) (w : World) (hr0 : Kd.C k26 w A0 l0.length l0) (hc0 : l0.length ≤ c0) (h : G_ l0 = some r), Calls Try.prog 19 #[.slice A0 l0.length c0] w fun e w' => ∃ v0_ : Value, e = .returned (v0_) ∧ Kd.S kD 34 w' w.heap.size (fun _ => True) v0_ r ∧ Below w.heap.size w w') (k : Nat) (a0_0 : Int) (a0_1 : ByteArray) (a0_2 : ByteArray) (a0_3 : ByteArray) (A0_4 : Option Addr) (c0_4 : Nat) (l0_4 : List (S84)) (A0_5 : Option Addr) (c0_5 : Nat) (l0_5 : List (S87)) (A0_6 : Option Addr) (c0_6 : Nat) (l0_6 : List (S26)) (a0_7 : ByteArray) (r1 : Int) (r2 : ByteArray) (r3 : ByteArray) (r4 : ByteArray) (r5 : List (S88)) (r6 : List (S90)) (r7 : List (S34)) (r8 : ByteArray) (w : World) (hr0_4 : Kd.C k84 w A0_4 l0_4.length l0_4) (hc0_4 : l0_4.length ≤ c0_4) (hr0_5 : Kd.C k87 w A0_5 l0_5.length l0_5) (hc0_5 : l0_5.length ≤ c0_5) (hr0_6 : Kd.C k26 w A0_6 l0_6.length l0_6) (hc0_6 : l0_6.length ≤ c0_6) (h : laws_toNode.F G_ k a0_0 a0_1 a0_2 a0_3 l0_4 l0_5 l0_6 a0_7 = some (r1, r2, r3, r4, r5, r6, r7, r8)) :
  Calls Try.prog 10 #[.agg #[.int .i64 a0_0, .string a0_1, .string a0_2, .string a0_3, .slice A0_4 l0_4.length c0_4, .slice A0_5 l0_5.length c0_5, .slice A0_6 l0_6.length c0_6, .string a0_7]] w fun e w' => ∃ v4_ v5_ v6_ : Value, e = .returned (.agg #[.int .i64 r1, .string r2, .string r3, .string r4, v4_, v5_, v6_, .string r8]) ∧ Kd.R k88 88 w' w.heap.size (fun _ => True) v4_ r5 ∧ Kd.R k90 90 w' w.heap.size (fun _ => True) v5_ r6 ∧ Kd.S kD 34 w' w.heap.size (fun k_ => some k_ ≠ (v4_ : Value).ownBlock ∧ some k_ ≠ (v5_ : Value).ownBlock) v6_ r7 ∧ Below w.heap.size w w' := by
 have hu26 := Try.underlying26
 have hu34 := Try.underlying34
 have HR0_4 := Aside0.mk hr0_4
 have HC0_4 := Aside0.mk hc0_4
 clear hr0_4 hc0_4
 have HR0_5 := Aside0.mk hr0_5
 have HC0_5 := Aside0.mk hc0_5
 clear hr0_5 hc0_5
 have HR0_6 := Aside0.mk hr0_6
 have HC0_6 := Aside0.mk hc0_6
 clear hr0_6 hc0_6
 have HB := Aside0.mk (Below.refl w.heap.size w)
 have H : ((laws_toDeclS.f k l0_4).bind fun t169 => ((laws_toAttrS.f k l0_5).bind fun t172 => ((G_ l0_6).bind fun t175 => (some (a0_0, a0_1, a0_2, a0_3, t169, t172, t175, a0_7))))) = some (r1, r2, r3, r4, r5, r6, r7, r8) := h
 clear h
 replace H := Option.bind_eq_some_iff.mp H
 obtain ⟨t169, A20, H⟩ := H
 try dsimp only at H
 have A2 := Aside0.mk A20
 clear A20
 replace H := Option.bind_eq_some_iff.mp H
 obtain ⟨t172, A30, H⟩ := H
 try dsimp only at H
 have A3 := Aside0.mk A30
 clear A30
 replace H := Option.bind_eq_some_iff.mp H
 obtain ⟨t175, A40, H⟩ := H
 try dsimp only at H
 have A4 := Aside0.mk A40
 clear A40
 simp only [Option.some.injEq, Prod.mk.injEq] at H
 obtain ⟨rfl, rfl, rfl, rfl, rfl, rfl, rfl, rfl⟩ := H
 go_enter Try.func10, Try.ntmps10
 go_wp2_with (first | ((with_reducible refine gate_dst (N := 1) rfl ?_); refine box_event ?hg (N := 1) ?hd (cs := #[.int .i64 a0_0, .string a0_1, .string a0_2, .string a0_3, .slice A0_4 l0_4.length c0_4, .slice A0_5 l0_5.length c0_5, .slice A0_6 l0_6.length c0_6, .string a0_7]) (t := 26) ?hr ?_; (case hd => rfl); (case hg => rfl); (case hr => first | (go_simp; done) | (go_simp; rfl)); intro gb166 hg w5 hbox hb; have BK166 := Aside0.mk (hbox); have GW166 := Aside0.mk ((by rw [hg]; exact (below_size hB) : w.heap.size ≤ gb166)); have GE166 := Aside0.mk ((by rw [hg]; exact (below_size hB) : w.heap.size ≤ gb166)); replace HB := Aside0.mk (below_step hB hb); clear hb hbox hg) | ((with_reducible refine gate_dst (N := 2) rfl ?_); refine box_event ?hg (N := 2) ?hd (cs := #[.int .i64 0, .string (⟨#[]⟩ : ByteArray), .string (⟨#[]⟩ : ByteArray), .string (⟨#[]⟩ : ByteArray), .slice none 0 0, .slice none 0 0, .slice none 0 0, .string (⟨#[]⟩ : ByteArray)]) (t := 34) ?hr ?_; (case hd => rfl); (case hg => rfl); (case hr => first | (go_simp; done) | (go_simp; rfl)); intro gb167 hg w6 hbox hb; have BK167 := Aside0.mk (hbox); have GW167 := Aside0.mk ((by rw [hg]; exact (below_size hB) : w.heap.size ≤ gb167)); have GE167 := Aside0.mk ((by rw [hg]; exact (below_size hB) : w.heap.size ≤ gb167)); replace HB := Aside0.mk (below_step hB hb); have NB166_167 := Aside0.mk ((by rw [hg]; exact Nat.ne_of_lt (blk_lt (g := gb166) (by (with_reducible repeat (first | refine bN ?_ _|refine bD ?_|refine bA ?_ _)); exact BK166.out)) : gb166 ≠ gb167)); have NB167_166 := Aside0.mk ((by rw [hg]; exact Nat.ne_of_gt (blk_lt (g := gb166) (by (with_reducible repeat (first | refine bN ?_ _|refine bD ?_|refine bA ?_ _)); exact BK166.out)) : gb167 ≠ gb166)); replace BK166 := Aside0.mk (blk_below (g := gb166) (by (with_reducible repeat (first | refine bN ?_ _|refine bD ?_|refine bA ?_ _)); exact BK166.out) hb); clear hb hbox hg) | ((with_reducible refine gate_dst (N := 3) rfl ?_); refine box_event ?hg (N := 3) ?hd (cs := #[.int .i64 0, .string (⟨#[]⟩ : ByteArray), .string (⟨#[]⟩ : ByteArray), .string (⟨#[]⟩ : ByteArray), .slice none 0 0, .slice none 0 0, .slice none 0 0, .string (⟨#[]⟩ : ByteArray)]) (t := 34) ?hr ?_; (case hd => rfl); (case hg => rfl); (case hr => first | (go_simp; done) | (go_simp; rfl)); intro gb168 hg w7 hbox hb; have BK168 := Aside0.mk (hbox); have GW168 := Aside0.mk ((by rw [hg]; exact (below_size hB) : w.heap.size ≤ gb168)); have GE168 := Aside0.mk ((by rw [hg]; exact (below_size hB) : w.heap.size ≤ gb168)); replace HB := Aside0.mk (below_step hB hb); have NB166_168 := Aside0.mk ((by rw [hg]; exact Nat.ne_of_lt (blk_lt (g := gb166) (by (with_reducible repeat (first | refine bN ?_ _|refine bD ?_|refine bA ?_ _)); exact BK166.out)) : gb166 ≠ gb168)); have NB168_166 := Aside0.mk ((by rw [hg]; exact Nat.ne_of_gt (blk_lt (g := gb166) (by (with_reducible repeat (first | refine bN ?_ _|refine bD ?_|refine bA ?_ _)); exact BK166.out)) : gb168 ≠ gb166)); replace BK166 := Aside0.mk (blk_below (g := gb166) (by (with_reducible repeat (first | refine bN ?_ _|refine bD ?_|refine bA ?_ _)); exact BK166.out) hb); have NB167_168 := Aside0.mk ((by rw [hg]; exact Nat.ne_of_lt (blk_lt (g := gb167) (by (with_reducible repeat (first | refine bN ?_ _|refine bD ?_|refine bA ?_ _)); exact BK167.out)) : gb167 ≠ gb168)); have NB168_167 := Aside0.mk ((by rw [hg]; exact Nat.ne_of_gt (blk_lt (g := gb167) (by (with_reducible repeat (first | refine bN ?_ _|refine bD ?_|refine bA ?_ _)); exact BK167.out)) : gb168 ≠ gb167)); replace BK167 := Aside0.mk (blk_below (g := gb167) (by (with_reducible repeat (first | refine bN ?_ _|refine bD ?_|refine bA ?_ _)); exact BK167.out) hb); clear hb hbox hg; have hnb8 := NB166_167.out; have hnc8 := NB167_166.out; have hnb9 := NB166_168.out; have hnc9 := NB168_166.out; obtain ⟨hcz10_0, hcz10_1, hcz10_2, hcz10_3, hcz10_4, hcz10_5, hcz10_6, hcz10_7⟩ := bc8 BK166.out; obtain ⟨hfz10_0, hfz10_1, hfz10_2, hfz10_3, hfz10_4, hfz10_5, hfz10_6, hfz10_7⟩ := bf8 BK166.out; have hnb11 := NB168_167.out; have hnc11 := NB167_168.out; obtain ⟨hcz12_0, hcz12_1, hcz12_2, hcz12_3, hcz12_4, hcz12_5, hcz12_6, hcz12_7⟩ := bc8 BK168.out; obtain ⟨hfz12_0, hfz12_1, hfz12_2, hfz12_3, hfz12_4, hfz12_5, hfz12_6, hfz12_7⟩ := bf8 BK168.out) | ((with_reducible refine gate_callee (f := 38) rfl ?_); refine goesL_ (some 18) rfl rfl Try.func38 (by kernel_rfl) rfl #[.slice A0_4 l0_4.length c0_4] rfl mA ?_; (with_reducible refine (laws_toDeclS.calls k _ _ l0_4 t169 _ ?side1 ?side2 A2.out).mono ?_); (case side1 => exact Kd.C_below HR0_4.out hB); (case side2 => exact HC0_4.out); rintro e w13 ⟨v170, rfl, ho0, hb⟩; refine ⟨_, rfl, ?_⟩; have HO171 := Aside0.mk (Kd.R_lower ho0 (below_size hB)); replace BK166 := Aside0.mk (blk_below (g := gb166) (o := .cells #[.int .i64 a0_0, .string a0_1, .string a0_2, .string a0_3, .slice A0_4 l0_4.length c0_4, .slice A0_5 l0_5.length c0_5, .slice A0_6 l0_6.length c0_6, .string a0_7] 26 (0, 0)) (by (with_reducible repeat (first | refine bN ?_ _|refine bD ?_|refine bA ?_ _)); refine blk_far ?_ NB166_168.out _; (with_reducible repeat (first | refine bN ?_ _|refine bD ?_|refine bA ?_ _)); refine blk_far ?_ NB166_168.out _; (with_reducible repeat (first | refine bN ?_ _|refine bD ?_|refine bA ?_ _)); refine blk_far ?_ NB166_168.out _; (with_reducible repeat (first | refine bN ?_ _|refine bD ?_|refine bA ?_ _)); refine blk_far ?_ NB166_168.out _; (with_reducible repeat (first | refine bN ?_ _|refine bD ?_|refine bA ?_ _)); exact BK166.out) hb); replace BK167 := Aside0.mk (blk_below (g := gb167) (o := .cells #[.int .i64 0, .string (⟨#[]⟩ : ByteArray), .string (⟨#[]⟩ : ByteArray), .string (⟨#[]⟩ : ByteArray), .slice none 0 0, .slice none 0 0, .slice none 0 0, .string (⟨#[]⟩ : ByteArray)] 34 (0, 0)) (by (with_reducible repeat (first | refine bN ?_ _|refine bD ?_|refine bA ?_ _)); refine blk_far ?_ NB167_168.out _; (with_reducible repeat (first | refine bN ?_ _|refine bD ?_|refine bA ?_ _)); refine blk_far ?_ NB167_168.out _; (with_reducible repeat (first | refine bN ?_ _|refine bD ?_|refine bA ?_ _)); refine blk_far ?_ NB167_168.out _; (with_reducible repeat (first | refine bN ?_ _|refine bD ?_|refine bA ?_ _)); refine blk_far ?_ NB167_168.out _; (with_reducible repeat (first | refine bN ?_ _|refine bD ?_|refine bA ?_ _)); exact BK167.out) hb); replace BK168 := Aside0.mk (blk_below (g := gb168) (o := .cells #[.int .i64 a0_0, .string a0_1, .string a0_2, .string a0_3, .slice none 0 0, .slice none 0 0, .slice none 0 0, .string (⟨#[]⟩ : ByteArray)] 34 (0, 0)) (by (with_reducible repeat (first | refine bN ?_ _|refine bD ?_|refine bA ?_ _)); refine blk_put (cs := #[.int .i64 a0_0, .string a0_1, .string a0_2, .string (⟨#[]⟩ : ByteArray), .slice none 0 0, .slice none 0 0, .slice none 0 0, .string (⟨#[]⟩ : ByteArray)]) ?_ 3 _ rfl; (with_reducible repeat (first | refine bN ?_ _|refine bD ?_|refine bA ?_ _)); refine blk_put (cs := #[.int .i64 a0_0, .string a0_1, .string (⟨#[]⟩ : ByteArray), .string (⟨#[]⟩ : ByteArray), .slice none 0 0, .slice none 0 0, .slice none 0 0, .string (⟨#[]⟩ : ByteArray)]) ?_ 2 _ rfl; (with_reducible repeat (first | refine bN ?_ _|refine bD ?_|refine bA ?_ _)); refine blk_put (cs := #[.int .i64 a0_0, .string (⟨#[]⟩ : ByteArray), .string (⟨#[]⟩ : ByteArray), .string (⟨#[]⟩ : ByteArray), .slice none 0 0, .slice none 0 0, .slice none 0 0, .string (⟨#[]⟩ : ByteArray)]) ?_ 1 _ rfl; (with_reducible repeat (first | refine bN ?_ _|refine bD ?_|refine bA ?_ _)); refine blk_put (cs := #[.int .i64 0, .string (⟨#[]⟩ : ByteArray), .string (⟨#[]⟩ : ByteArray), .string (⟨#[]⟩ : ByteArray), .slice none 0 0, .slice none 0 0, .slice none 0 0, .string (⟨#[]⟩ : ByteArray)]) ?_ 0 _ rfl; (with_reducible repeat (first | refine bN ?_ _|refine bD ?_|refine bA ?_ _)); exact BK168.out) hb); replace HB := Aside0.mk (below_step hB hb); (try clear hb); (try clear hb2); (try clear hk); (try clear hi); (try clear ho0); obtain ⟨Ao14, co14, eo14⟩ := Kd.R_slice HO171.out; subst eo14; obtain ⟨hcz15_0, hcz15_1, hcz15_2, hcz15_3, hcz15_4, hcz15_5, hcz15_6, hcz15_7⟩ := bc8 BK168.out; obtain ⟨hfz15_0, hfz15_1, hfz15_2, hfz15_3, hfz15_4, hfz15_5, hfz15_6, hfz15_7⟩ := bf8 BK168.out; obtain ⟨hcz16_0, hcz16_1, hcz16_2, hcz16_3, hcz16_4, hcz16_5, hcz16_6, hcz16_7⟩ := bc8 BK166.out; obtain ⟨hfz16_0, hfz16_1, hfz16_2, hfz16_3, hfz16_4, hfz16_5, hfz16_6, hfz16_7⟩ := bf8 BK166.out) | ((with_reducible refine gate_callee (f := 39) rfl ?_); refine goesL_ (some 22) rfl rfl Try.func39 (by kernel_rfl) rfl #[.slice A0_5 l0_5.length c0_5] rfl mA ?_; (with_reducible refine (laws_toAttrS.calls k _ _ l0_5 t172 _ ?side1 ?side2 A3.out).mono ?_); (case side1 => exact Kd.C_below HR0_5.out hB); (case side2 => exact HC0_5.out); rintro e w17 ⟨v173, rfl, ho0, hb⟩; refine ⟨_, rfl, ?_⟩; replace HO171 := Aside0.mk (Kd.R_below (by (with_reducible repeat (first|apply rA|apply rN|apply rD|apply Kd.S_alloc|apply Kd.S_drewN|apply Kd.S_drew)); exact (Kd.R_mono (Kd.R_far (p := ⟨gb168, 4, none⟩) (Kd.R_types HO171.out BK168.out (by decide)) (fun _ hk => hk.2) (.slice Ao14 t169.length co14)) (fun _ h_ => h_.1))) hb); have HO174 := Aside0.mk (Kd.R_lower ho0 (below_size hB)); replace BK166 := Aside0.mk (blk_below (g := gb166) (o := .cells #[.int .i64 a0_0, .string a0_1, .string a0_2, .string a0_3, .slice A0_4 l0_4.length c0_4, .slice A0_5 l0_5.length c0_5, .slice A0_6 l0_6.length c0_6, .string a0_7] 26 (0, 0)) (by (with_reducible repeat (first | refine bN ?_ _|refine bD ?_|refine bA ?_ _)); refine blk_far ?_ NB166_168.out _; (with_reducible repeat (first | refine bN ?_ _|refine bD ?_|refine bA ?_ _)); exact BK166.out) hb); replace BK167 := Aside0.mk (blk_below (g := gb167) (o := .cells #[.int .i64 0, .string (⟨#[]⟩ : ByteArray), .string (⟨#[]⟩ : ByteArray), .string (⟨#[]⟩ : ByteArray), .slice none 0 0, .slice none 0 0, .slice none 0 0, .string (⟨#[]⟩ : ByteArray)] 34 (0, 0)) (by (with_reducible repeat (first | refine bN ?_ _|refine bD ?_|refine bA ?_ _)); refine blk_far ?_ NB167_168.out _; (with_reducible repeat (first | refine bN ?_ _|refine bD ?_|refine bA ?_ _)); exact BK167.out) hb); replace BK168 := Aside0.mk (blk_below (g := gb168) (o := .cells #[.int .i64 a0_0, .string a0_1, .string a0_2, .string a0_3, .slice Ao14 t169.length co14, .slice none 0 0, .slice none 0 0, .string (⟨#[]⟩ : ByteArray)] 34 (0, 0)) (by (with_reducible repeat (first | refine bN ?_ _|refine bD ?_|refine bA ?_ _)); refine blk_put (cs := #[.int .i64 a0_0, .string a0_1, .string a0_2, .string a0_3, .slice none 0 0, .slice none 0 0, .slice none 0 0, .string (⟨#[]⟩ : ByteArray)]) ?_ 4 _ rfl; (with_reducible repeat (first | refine bN ?_ _|refine bD ?_|refine bA ?_ _)); exact BK168.out) hb); replace HB := Aside0.mk (below_step hB hb); (try clear hb); (try clear hb2); (try clear hk); (try clear hi); (try clear ho0); obtain ⟨Ao18, co18, eo18⟩ := Kd.R_slice HO174.out; subst eo18; obtain ⟨hcz19_0, hcz19_1, hcz19_2, hcz19_3, hcz19_4, hcz19_5, hcz19_6, hcz19_7⟩ := bc8 BK168.out; obtain ⟨hfz19_0, hfz19_1, hfz19_2, hfz19_3, hfz19_4, hfz19_5, hfz19_6, hfz19_7⟩ := bf8 BK168.out; obtain ⟨hcz20_0, hcz20_1, hcz20_2, hcz20_3, hcz20_4, hcz20_5, hcz20_6, hcz20_7⟩ := bc8 BK166.out; obtain ⟨hfz20_0, hfz20_1, hfz20_2, hfz20_3, hfz20_4, hfz20_5, hfz20_6, hfz20_7⟩ := bf8 BK166.out) | ((with_reducible refine gate_callee (f := 19) rfl ?_); refine goesL_ (some 26) rfl rfl Try.func19 (by kernel_rfl) rfl #[.slice A0_6 l0_6.length c0_6] rfl mA ?_; (with_reducible refine (hG_ _ _ l0_6 t175 _ ?side1 ?side2 A4.out).mono ?_); (case side1 => exact Kd.C_below HR0_6.out hB); (case side2 => exact HC0_6.out); rintro e w21 ⟨v176, rfl, ho0, hb⟩; refine ⟨_, rfl, ?_⟩; have HO177 := Aside0.mk (Kd.S_lower (Kd.S_newB (Kd.S_newB (Kd.S_new' (Kd.S_new' ho0 (Kd.R_lt (by (with_reducible repeat (first|apply rA|apply rN|apply rD|apply Kd.S_alloc|apply Kd.S_drewN|apply Kd.S_drew)); exact (Kd.R_mono (Kd.R_far (p := ⟨gb168, 5, none⟩) (Kd.R_types HO171.out BK168.out (by decide)) (fun _ hk => hk.2) (.slice Ao18 t172.length co18)) (fun _ h_ => h_.1))))) (Kd.R_lt (by (with_reducible repeat (first|apply rA|apply rN|apply rD|apply Kd.S_alloc|apply Kd.S_drewN|apply Kd.S_drew)); exact (Kd.R_mono (Kd.R_far (p := ⟨gb168, 5, none⟩) (Kd.R_types HO174.out BK168.out (by decide)) (fun _ hk => hk.2) (.slice Ao18 t172.length co18)) (fun _ h_ => h_.1))))) (g := gb167) (o := .cells #[.int .i64 0, .string (⟨#[]⟩ : ByteArray), .string (⟨#[]⟩ : ByteArray), .string (⟨#[]⟩ : ByteArray), .slice none 0 0, .slice none 0 0, .slice none 0 0, .string (⟨#[]⟩ : ByteArray)] 34 (0, 0)) (by (with_reducible repeat (first | refine bN ?_ _|refine bD ?_|refine bA ?_ _)); refine blk_far ?_ NB167_168.out _; (with_reducible repeat (first | refine bN ?_ _|refine bD ?_|refine bA ?_ _)); exact BK167.out)) (g := gb168) (o := .cells #[.int .i64 a0_0, .string a0_1, .string a0_2, .string a0_3, .slice Ao14 t169.length co14, .slice Ao18 t172.length co18, .slice none 0 0, .string (⟨#[]⟩ : ByteArray)] 34 (0, 0)) (by (with_reducible repeat (first | refine bN ?_ _|refine bD ?_|refine bA ?_ _)); refine blk_put (cs := #[.int .i64 a0_0, .string a0_1, .string a0_2, .string a0_3, .slice Ao14 t169.length co14, .slice none 0 0, .slice none 0 0, .string (⟨#[]⟩ : ByteArray)]) ?_ 5 _ rfl; (with_reducible repeat (first | refine bN ?_ _|refine bD ?_|refine bA ?_ _)); exact BK168.out)) (below_size hB)); replace HO171 := Aside0.mk (Kd.R_below (by (with_reducible repeat (first|apply rA|apply rN|apply rD|apply Kd.S_alloc|apply Kd.S_drewN|apply Kd.S_drew)); exact (Kd.R_mono (Kd.R_far (p := ⟨gb168, 5, none⟩) (Kd.R_types HO171.out BK168.out (by decide)) (fun _ hk => hk.2) (.slice Ao18 t172.length co18)) (fun _ h_ => h_.1))) hb); replace HO174 := Aside0.mk (Kd.R_below (by (with_reducible repeat (first|apply rA|apply rN|apply rD|apply Kd.S_alloc|apply Kd.S_drewN|apply Kd.S_drew)); exact (Kd.R_mono (Kd.R_far (p := ⟨gb168, 5, none⟩) (Kd.R_types HO174.out BK168.out (by decide)) (fun _ hk => hk.2) (.slice Ao18 t172.length co18)) (fun _ h_ => h_.1))) hb); replace BK166 := Aside0.mk (blk_below (g := gb166) (o := .cells #[.int .i64 a0_0, .string a0_1, .string a0_2, .string a0_3, .slice A0_4 l0_4.length c0_4, .slice A0_5 l0_5.length c0_5, .slice A0_6 l0_6.length c0_6, .string a0_7] 26 (0, 0)) (by (with_reducible repeat (first | refine bN ?_ _|refine bD ?_|refine bA ?_ _)); refine blk_far ?_ NB166_168.out _; (with_reducible repeat (first | refine bN ?_ _|refine bD ?_|refine bA ?_ _)); exact BK166.out) hb); replace BK167 := Aside0.mk (blk_below (g := gb167) (o := .cells #[.int .i64 0, .string (⟨#[]⟩ : ByteArray), .string (⟨#[]⟩ : ByteArray), .string (⟨#[]⟩ : ByteArray), .slice none 0 0, .slice none 0 0, .slice none 0 0, .string (⟨#[]⟩ : ByteArray)] 34 (0, 0)) (by (with_reducible repeat (first | refine bN ?_ _|refine bD ?_|refine bA ?_ _)); refine blk_far ?_ NB167_168.out _; (with_reducible repeat (first | refine bN ?_ _|refine bD ?_|refine bA ?_ _)); exact BK167.out) hb); replace BK168 := Aside0.mk (blk_below (g := gb168) (o := .cells #[.int .i64 a0_0, .string a0_1, .string a0_2, .string a0_3, .slice Ao14 t169.length co14, .slice Ao18 t172.length co18, .slice none 0 0, .string (⟨#[]⟩ : ByteArray)] 34 (0, 0)) (by (with_reducible repeat (first | refine bN ?_ _|refine bD ?_|refine bA ?_ _)); refine blk_put (cs := #[.int .i64 a0_0, .string a0_1, .string a0_2, .string a0_3, .slice Ao14 t169.length co14, .slice none 0 0, .slice none 0 0, .string (⟨#[]⟩ : ByteArray)]) ?_ 5 _ rfl; (with_reducible repeat (first | refine bN ?_ _|refine bD ?_|refine bA ?_ _)); exact BK168.out) hb); replace HB := Aside0.mk (below_step hB hb); (try clear hb); (try clear hb2); (try clear hk); (try clear hi); (try clear ho0); obtain ⟨Ao22, co22, eo22⟩ := Kd.S_slice HO177.out; subst eo22; obtain ⟨hcz23_0, hcz23_1, hcz23_2, hcz23_3, hcz23_4, hcz23_5, hcz23_6, hcz23_7⟩ := bc8 BK168.out; obtain ⟨hfz23_0, hfz23_1, hfz23_2, hfz23_3, hfz23_4, hfz23_5, hfz23_6, hfz23_7⟩ := bf8 BK168.out; obtain ⟨hcz24_0, hcz24_1, hcz24_2, hcz24_3, hcz24_4, hcz24_5, hcz24_6, hcz24_7⟩ := bc8 BK166.out; obtain ⟨hfz24_0, hfz24_1, hfz24_2, hfz24_3, hfz24_4, hfz24_5, hfz24_6, hfz24_7⟩ := bf8 BK166.out; obtain ⟨hcz25_0, hcz25_1, hcz25_2, hcz25_3, hcz25_4, hcz25_5, hcz25_6, hcz25_7⟩ := bc8 BK167.out; obtain ⟨hfz25_0, hfz25_1, hfz25_2, hfz25_3, hfz25_4, hfz25_5, hfz25_6, hfz25_7⟩ := bf8 BK167.out))
 refine bodyPost_ret (results_cell_row rfl _ _ gb167 34 #[.int .i64 a0_0, .string a0_1, .string a0_2, .string a0_3, .slice Ao14 t169.length co14, .slice Ao18 t172.length co18, .slice Ao22 t175.length co22, .string a0_7] (0, 0) _ rfl (by (with_reducible repeat (first | refine bN ?_ _|refine bD ?_|refine bA ?_ _)); exact put8 (by (with_reducible repeat (first | refine bN ?_ _|refine bD ?_|refine bA ?_ _)); refine blk_far ?_ NB167_168.out _; (with_reducible repeat (first | refine bN ?_ _|refine bD ?_|refine bA ?_ _)); refine blk_far ?_ NB167_168.out _; (with_reducible repeat (first | refine bN ?_ _|refine bD ?_|refine bA ?_ _)); exact BK167.out)) Try.underlying34 rfl (by kernel_rfl)) rfl ?_
 exact ⟨_, _, _, rE, by (with_reducible repeat (first|apply rA|apply rN|apply rD|apply Kd.S_alloc|apply Kd.S_drewN|apply Kd.S_drew)); exact Kd.R_mono (Kd.R_far (p := ⟨gb167, 7, none⟩) (Kd.R_far (p := ⟨gb167, 6, none⟩) (Kd.R_far (p := ⟨gb167, 5, none⟩) (Kd.R_far (p := ⟨gb167, 4, none⟩) (Kd.R_far (p := ⟨gb167, 3, none⟩) (Kd.R_far (p := ⟨gb167, 2, none⟩) (Kd.R_far (p := ⟨gb167, 1, none⟩) (Kd.R_far (p := ⟨gb167, 0, none⟩) (Kd.R_far (p := ⟨gb168, 7, none⟩) (Kd.R_far (p := ⟨gb168, 6, none⟩) (Kd.R_types (Kd.R_types HO171.out BK168.out (by decide)) BK167.out (by decide)) (fun _ hk => hk.1.2) (.slice Ao22 t175.length co22)) (fun _ hk => hk.1.2) (.string a0_7)) (fun _ hk => hk.2) (.int .i64 a0_0)) (fun _ hk => hk.2) (.string a0_1)) (fun _ hk => hk.2) (.string a0_2)) (fun _ hk => hk.2) (.string a0_3)) (fun _ hk => hk.2) (.slice Ao14 t169.length co14)) (fun _ hk => hk.2) (.slice Ao18 t172.length co18)) (fun _ hk => hk.2) (.slice Ao22 t175.length co22)) (fun _ hk => hk.2) (.string a0_7)) (fun _ hk => trivial), by (with_reducible repeat (first|apply rA|apply rN|apply rD|apply Kd.S_alloc|apply Kd.S_drewN|apply Kd.S_drew)); exact Kd.R_mono (Kd.R_far (p := ⟨gb167, 7, none⟩) (Kd.R_far (p := ⟨gb167, 6, none⟩) (Kd.R_far (p := ⟨gb167, 5, none⟩) (Kd.R_far (p := ⟨gb167, 4, none⟩) (Kd.R_far (p := ⟨gb167, 3, none⟩) (Kd.R_far (p := ⟨gb167, 2, none⟩) (Kd.R_far (p := ⟨gb167, 1, none⟩) (Kd.R_far (p := ⟨gb167, 0, none⟩) (Kd.R_far (p := ⟨gb168, 7, none⟩) (Kd.R_far (p := ⟨gb168, 6, none⟩) (Kd.R_types (Kd.R_types HO174.out BK168.out (by decide)) BK167.out (by decide)) (fun _ hk => hk.1.2) (.slice Ao22 t175.length co22)) (fun _ hk => hk.1.2) (.string a0_7)) (fun _ hk => hk.2) (.int .i64 a0_0)) (fun _ hk => hk.2) (.string a0_1)) (fun _ hk => hk.2) (.string a0_2)) (fun _ hk => hk.2) (.string a0_3)) (fun _ hk => hk.2) (.slice Ao14 t169.length co14)) (fun _ hk => hk.2) (.slice Ao18 t172.length co18)) (fun _ hk => hk.2) (.slice Ao22 t175.length co22)) (fun _ hk => hk.2) (.string a0_7)) (fun _ hk => trivial), by (with_reducible repeat (first|apply rA|apply rN|apply rD|apply Kd.S_alloc|apply Kd.S_drewN|apply Kd.S_drew)); exact Kd.S_mono (Kd.S_far (p := ⟨gb167, 7, none⟩) (Kd.S_far (p := ⟨gb167, 6, none⟩) (Kd.S_far (p := ⟨gb167, 5, none⟩) (Kd.S_far (p := ⟨gb167, 4, none⟩) (Kd.S_far (p := ⟨gb167, 3, none⟩) (Kd.S_far (p := ⟨gb167, 2, none⟩) (Kd.S_far (p := ⟨gb167, 1, none⟩) (Kd.S_far (p := ⟨gb167, 0, none⟩) (Kd.S_far (p := ⟨gb168, 7, none⟩) (Kd.S_far (p := ⟨gb168, 6, none⟩) (Kd.S_mono (Kd.S_mono HO177.out (fun k_ hk => (⟨hk, hk.2⟩ : _ ∧ k_ ≠ gb168))) (fun k_ hk => (⟨hk, hk.1.1.2⟩ : _ ∧ k_ ≠ gb167))) (fun _ hk => hk.1.2) (.slice Ao22 t175.length co22)) (fun _ hk => hk.1.2) (.string a0_7)) (fun _ hk => hk.2) (.int .i64 a0_0)) (fun _ hk => hk.2) (.string a0_1)) (fun _ hk => hk.2) (.string a0_2)) (fun _ hk => hk.2) (.string a0_3)) (fun _ hk => hk.2) (.slice Ao14 t169.length co14)) (fun _ hk => hk.2) (.slice Ao18 t172.length co18)) (fun _ hk => hk.2) (.slice Ao22 t175.length co22)) (fun _ hk => hk.2) (.string a0_7)) (fun _ hk => ⟨hk.1.1.1.1.1.2, hk.1.1.1.1.2⟩), hB⟩
/-! ### laws_toNodeS: function 19 -/
mutual
def laws_toNodeS.l0 : Nat → List (S26) → List (S34) → Int → Option ((List (S34)))
 | 0, _, _, _ => none
 | k + 1, x0, x3, x4 => if x4 < (x0.length : Int) then (if 0 ≤ x4 then ((laws_toNode.F (fun y0_ => laws_toNodeS.f k y0_) k ((rd_T26 x0 x4).f0) ((rd_T26 x0 x4).f1) ((rd_T26 x0 x4).f2) ((rd_T26 x0 x4).f3) ((rd_T26 x0 x4).f4) ((rd_T26 x0 x4).f5) ((rd_T26 x0 x4).f6) ((rd_T26 x0 x4).f7)).bind fun bt210 => (if x4 < (x3.length : Int) then (laws_toNodeS.l0 k x0 (x3.set (x4 : Int).toNat (⟨bt210.1, bt210.2.1, bt210.2.2.1, bt210.2.2.2.1, bt210.2.2.2.2.1, bt210.2.2.2.2.2.1, bt210.2.2.2.2.2.2.1, bt210.2.2.2.2.2.2.2⟩ : S34)) (wrap64 (x4 + 1))) else (none))) else (none)) else (some x3)
def laws_toNodeS.f : Nat → List (S26) → Option ((List (S34)))
 | 0, _ => none
 | k + 1, l0 => if 0 ≤ (l0.length : Int) then (if ((l0.length : Int) : Int).toNat ≤ 1954687338268 then (laws_toNodeS.l0 k l0 (List.replicate ((l0.length : Int) : Int).toNat z34) 0) else (none)) else (none)
end
theorem laws_toNodeS.callsD (k : Nat) : ∀ (A0 : Option Addr) (c0 : Nat) (l0 : List (S26)) (r : List (S34)) (w : World) (hr0 : Kd.C k26 w A0 l0.length l0) (hc0 : l0.length ≤ c0) (h : laws_toNodeS.f k l0 = some r),
  Calls Try.prog 19 #[.slice A0 l0.length c0] w fun e w' => ∃ v0_ : Value, e = .returned (v0_) ∧ Kd.S kD 34 w' w.heap.size (fun _ => True) v0_ r ∧ Below w.heap.size w w' := by
 induction k using Nat.strongRecOn with
 | _ k ih =>
 intro A0 c0 l0 r w hr0 hc0 h
 cases k with
 | zero => exact absurd h (by simp [laws_toNodeS.f])
 | succ k =>
 simp only [laws_toNodeS.f] at h
 have hu26 := Try.underlying26
 have hu34 := Try.underlying34
 have HR0 := Aside0.mk hr0
 have HC0 := Aside0.mk hc0
 clear hr0 hc0
 have HB := Aside0.mk (Below.refl w.heap.size w)
 have H : (if 0 ≤ (l0.length : Int) then (if ((l0.length : Int) : Int).toNat ≤ 1954687338268 then (laws_toNodeS.l0 k l0 (List.replicate ((l0.length : Int) : Int).toNat z34) 0) else (none)) else (none)) = some r := h
 clear h
 obtain ⟨c2, H⟩ := if_som H
 obtain ⟨c2b0, c2b1⟩ := fcT c2
 clear c2
 obtain ⟨c3, H⟩ := if_som H
 obtain ⟨c3b0, c3b1⟩ := fcT c3
 clear c3
 obtain ⟨y206, hy206⟩ : ∃ y_ : List (S34), y_ = (List.replicate ((l0.length : Int) : Int).toNat z34) := ⟨_, rfl⟩
 replace H : (laws_toNodeS.l0 k l0 y206 0) = some r := by first | (rw [hy206]; with_reducible exact H) | (have H2_ := (Option.bind_some _ _).symm.trans H; rw [hy206]; with_reducible exact H2_) | (have H2_ := (Option.bind_some _ _).symm.trans H; with_reducible exact H2_) | with_reducible exact H | (rw [hy206]; exact H) | exact H
 have Ny206 := Aside0.mk hy206
 clear hy206
 have H' := Aside0.mk H
 clear H
 go_enter Try.func19, Try.ntmps19
 go_wp2_with (first | ((with_reducible refine gate_dst (N := 7) rfl ?_); refine Kd.S_make kD _ 34 rfl (N := 7) rfl 32 _ _ rfl (l0.length : Int) rfl rfl Try.underlying32 (.agg #[(.int .i64 0), (.string ⟨#[]⟩), (.string ⟨#[]⟩), (.string ⟨#[]⟩), (.slice none 0 0), (.slice none 0 0), (.slice none 0 0), (.string ⟨#[]⟩)]) 144 info34 rfl (by decide) (by omega) z34 (ok := fun _ => True) (okp := fun _ => True) (kD_zero _ _ _) (fun _ hk => hk) trivial (odt) (Nat.le_trans (Nat.mul_le_mul_right _ (odt : (l0.length : Int).toNat ≤ 1954687338268)) (by omega)) (Below.refl _ _) (Nat.le_refl _) ?_; intro v207 w4 ho5 hb hg_ hnew_; clear hg_ hnew_; (first | rw [← Ny206.out] at ho5 | (simp only [Int.reduceToNat] at ho5; rw [← Ny206.out] at ho5)); have HO208 := Aside0.mk (Kd.S_lower ho5 (below_size hB)); replace HB := Aside0.mk (below_step hB hb); clear hb ho5))
 go_loopg [4] k (fun kq v4 w' => ∃ (x3_1 : List (S34)) (x4_1 : Int), v4 = .int .i64 x4_1 ∧ Aside0 (laws_toNodeS.l0 kq l0 x3_1 x4_1 = some r) ∧ Aside0 (kq ≤ k) ∧ Aside0 (Kd.S kD 34 w' w.heap.size (fun _ => True) v207 x3_1) ∧ Aside0 (Below w.heap.size w w'))
 case atStart => exact ⟨(y206), (0), rG, H', ⟨Nat.le_refl _⟩, ⟨by (with_reducible repeat (first|apply rA|apply rN|apply rD|apply Kd.S_alloc|apply Kd.S_drewN|apply Kd.S_drew)); exact HO208.out⟩, ⟨hB⟩⟩
 case round =>
  clear H'
  try clear c3; try clear c3b1; try clear c3b0; try clear c2; try clear c2b1; try clear c2b0
  obtain ⟨x3_1, x4_1, rfl, HA, HK1, HO_3, HB⟩ := hrel
  cases gk with
  | zero => exact absurd HA.out (by simp [laws_toNodeS.l0])
  | succ k1 =>
   have H := HA.out
   clear HA
   simp only [laws_toNodeS.l0] at H
   by_cases c6 : x4_1 < (l0.length : Int)
   ·rw [if_pos c6] at H
    have c6b0 : decide (x4_1 < (l0.length : Int)) = true := decide_eq_true c6
    clear c6
    obtain ⟨c7, H⟩ := if_som H
    have c7b0 : decide (0 ≤ x4_1) = true := decide_eq_true c7
    clear c7
    replace H := Option.bind_eq_some_iff.mp H
    obtain ⟨⟨t210, t211, t212, t213, t214, t217, t220, t223⟩, A80, H⟩ := H
    try dsimp only at H
    have A8 := Aside0.mk A80
    clear A80
    have p209 : 0 ≤ (x4_1 : Int) := odt
    have q209 : x4_1 < (l0.length : Int) := odt
    obtain ⟨ad209, A209_4, c209_4, A209_5, c209_5, A209_6, c209_6, e209, hx209_0, hx209_1, hx209_2, hx209_3, hx209_4, hx209_5, hx209_6, hx209_7, hl209_4, hi209_4, hl209_5, hi209_5, hl209_6, hi209_6⟩ := at_T26 HR0.out x4_1 p209 q209
    cases e209
    replace hx209_0 := pw_cell_below HB.out hx209_0
    replace hx209_1 := pw_cell_below HB.out hx209_1
    replace hx209_2 := pw_cell_below HB.out hx209_2
    replace hx209_3 := pw_cell_below HB.out hx209_3
    replace hx209_4 := pw_cell_below HB.out hx209_4
    replace hx209_5 := pw_cell_below HB.out hx209_5
    replace hx209_6 := pw_cell_below HB.out hx209_6
    replace hx209_7 := pw_cell_below HB.out hx209_7
    have HR209_4 := Aside0.mk hi209_4
    have HC209_4 := Aside0.mk hl209_4
    clear hi209_4 hl209_4
    have HR209_5 := Aside0.mk hi209_5
    have HC209_5 := Aside0.mk hl209_5
    clear hi209_5 hl209_5
    have HR209_6 := Aside0.mk hi209_6
    have HC209_6 := Aside0.mk hl209_6
    clear hi209_6 hl209_6
    replace p209 := eq_true p209
    replace q209 := eq_true q209
    go_wp2_with (first | ((with_reducible refine gate_callee (f := 10) rfl ?_); refine goesL_ (some 20) rfl rfl Try.func10 (by kernel_rfl) rfl #[.agg #[.int .i64 ((rd_T26 l0 x4_1).f0), .string ((rd_T26 l0 x4_1).f1), .string ((rd_T26 l0 x4_1).f2), .string ((rd_T26 l0 x4_1).f3), .slice A209_4 ((rd_T26 l0 x4_1).f4).length c209_4, .slice A209_5 ((rd_T26 l0 x4_1).f5).length c209_5, .slice A209_6 ((rd_T26 l0 x4_1).f6).length c209_6, .string ((rd_T26 l0 x4_1).f7)]] rfl mA ?_; (with_reducible refine (laws_toNode.callsF (laws_toNodeS.f k1) (ih k1 (by first | omega | (have := HK1.out; omega))) k1 ((rd_T26 l0 x4_1).f0) ((rd_T26 l0 x4_1).f1) ((rd_T26 l0 x4_1).f2) ((rd_T26 l0 x4_1).f3) _ _ ((rd_T26 l0 x4_1).f4) _ _ ((rd_T26 l0 x4_1).f5) _ _ ((rd_T26 l0 x4_1).f6) ((rd_T26 l0 x4_1).f7) t210 t211 t212 t213 t214 t217 t220 t223 _ ?side1 ?side2 ?side3 ?side4 ?side5 ?side6 A8.out).mono ?_); (case side1 => repeat (first | exact (Kd.C_below HR209_4.out HB.out) | (with_reducible refine Kd.C_alloc ?_ _) | (with_reducible refine Kd.C_drewN ?_ _) | (with_reducible refine Kd.C_drew ?_))); (case side2 => exact HC209_4.out); (case side3 => repeat (first | exact (Kd.C_below HR209_5.out HB.out) | (with_reducible refine Kd.C_alloc ?_ _) | (with_reducible refine Kd.C_drewN ?_ _) | (with_reducible refine Kd.C_drew ?_))); (case side4 => exact HC209_5.out); (case side5 => repeat (first | exact (Kd.C_below HR209_6.out HB.out) | (with_reducible refine Kd.C_alloc ?_ _) | (with_reducible refine Kd.C_drewN ?_ _) | (with_reducible refine Kd.C_drew ?_))); (case side6 => exact HC209_6.out); rintro e w9 ⟨v215, v218, v221, rfl, ho0, ho1, ho2, hb⟩; refine ⟨_, rfl, ?_⟩; obtain ⟨N_, hNb, hN0, hN1, hN2, hN3⟩ : ∃ N : Nat, w.heap.size ≤ N ∧ Kd.R k88 88 w9 N (fun _ => True) v215 t214 ∧ Kd.R k90 90 w9 N (fun _ => True) v218 t217 ∧ Kd.S kD 34 w9 N (fun k_ => some k_ ≠ (v215 : Value).ownBlock ∧ some k_ ≠ (v218 : Value).ownBlock) v221 t220 ∧ Kd.S kD 34 w9 w.heap.size (fun k_ => k_ < N) v207 x3_1 := ⟨_, below_size hB, ho0, ho1, ho2, Kd.S_mono (Kd.S_old (by (with_reducible repeat (first|apply rA|apply rN|apply rD|apply Kd.S_alloc|apply Kd.S_drewN|apply Kd.S_drew)); exact HO_3.out) hb) (fun _ h_ => h_.2)⟩; have HN_ := Aside0.mk (And.intro hNb (And.intro hN0 (And.intro hN1 (And.intro hN2 hN3)))); clear hNb hN0 hN1 hN2 hN3; have HO216 := Aside0.mk (Kd.R_lower ho0 (below_size hB)); have HO219 := Aside0.mk (Kd.R_lower ho1 (below_size hB)); have HO222 := Aside0.mk (Kd.S_lower (Kd.S_new' ho2 (Kd.S_lt (by (with_reducible repeat (first|apply rA|apply rN|apply rD|apply Kd.S_alloc|apply Kd.S_drewN|apply Kd.S_drew)); exact HO_3.out))) (below_size hB)); replace HO_3 := Aside0.mk (Kd.S_mono (Kd.S_told (Kd.S_told (Kd.S_told (Kd.S_old (by (with_reducible repeat (first|apply rA|apply rN|apply rD|apply Kd.S_alloc|apply Kd.S_drewN|apply Kd.S_drew)); exact HO_3.out) hb) (Kd.R_base ho0)) (Kd.R_base ho1)) (Kd.S_base ho2)) (fun _ h_ => h_.1)); replace HB := Aside0.mk (below_step hB hb); (try clear hb); (try clear hb2); (try clear hk); (try clear hi); (try clear ho0); (try clear ho1); (try clear ho2); refine halt_ ?_; intro q_ hq_))
    obtain ⟨rfl⟩ := hq_
    obtain ⟨c10, H⟩ := if_som H
    have c10b0 : decide (x4_1 < (x3_1.length : Int)) = true := decide_eq_true c10
    clear c10
    obtain ⟨y224, hy224⟩ : ∃ y_ : List (S34), y_ = (x3_1.set (x4_1 : Int).toNat (⟨t210, t211, t212, t213, t214, t217, t220, t223⟩ : S34)) := ⟨_, rfl⟩
    replace H : (laws_toNodeS.l0 k1 l0 y224 (wrap64 (x4_1 + 1))) = some r := by first | (rw [hy224]; with_reducible exact H) | (have H2_ := (Option.bind_some _ _).symm.trans H; rw [hy224]; with_reducible exact H2_) | (have H2_ := (Option.bind_some _ _).symm.trans H; with_reducible exact H2_) | with_reducible exact H | (rw [hy224]; exact H) | exact H
    have Ny224 := Aside0.mk hy224
    clear hy224
    have H' := Aside0.mk H
    clear H
    have p11 : 0 ≤ (x4_1 : Int) := odt
    have q11 : (x4_1 : Int) < ((x3_1.length : Int) : Int) := odt
    obtain ⟨go11, co11, eo11, gb11, gl11, cl11, HG11⟩ := Kd.R_form (kD_toR HO_3.out) (by omega)
    (first | cases eo11 | (injection eo11 with ea_ en_ ec_; (first | subst ea_ | (injection ea_ with ea_; subst ea_)); subst ec_; clear en_))
    have GB11 := Aside0.mk gb11
    have GG11 := Aside0.mk HG11
    clear gb11 gl11 HG11
    obtain ⟨ce11, hcl11, hM11, hcc11, hfr11⟩ := Kd.R_elem (kD_toR HO_3.out) z34 (x4_1 : Int) p11 q11
    obtain ⟨ve11_4, ve11_5, ve11_6, rfl, ge11_4, ge11_5, ge11_6⟩ := k34_openM hM11
    have hx11_0 : w9.cell? ⟨go11, (x4_1 : Int).toNat * 8, none⟩ = some (.int .i64 ((rd_T34 x3_1 x4_1).f0)) := hcc11 0 _ rfl
    have hx11_1 : w9.cell? ⟨go11, (x4_1 : Int).toNat * 8 + 1, none⟩ = some (.string ((rd_T34 x3_1 x4_1).f1)) := hcc11 1 _ rfl
    have hx11_2 : w9.cell? ⟨go11, (x4_1 : Int).toNat * 8 + 2, none⟩ = some (.string ((rd_T34 x3_1 x4_1).f2)) := hcc11 2 _ rfl
    have hx11_3 : w9.cell? ⟨go11, (x4_1 : Int).toNat * 8 + 3, none⟩ = some (.string ((rd_T34 x3_1 x4_1).f3)) := hcc11 3 _ rfl
    have hx11_4 : w9.cell? ⟨go11, (x4_1 : Int).toNat * 8 + 4, none⟩ = some (ve11_4) := hcc11 4 _ rfl
    have hx11_5 : w9.cell? ⟨go11, (x4_1 : Int).toNat * 8 + 5, none⟩ = some (ve11_5) := hcc11 5 _ rfl
    have hx11_6 : w9.cell? ⟨go11, (x4_1 : Int).toNat * 8 + 6, none⟩ = some (ve11_6) := hcc11 6 _ rfl
    have hx11_7 : w9.cell? ⟨go11, (x4_1 : Int).toNat * 8 + 7, none⟩ = some (.string ((rd_T34 x3_1 x4_1).f7)) := hcc11 7 _ rfl
    have hf11_0 : w9.frozen? ⟨go11, (x4_1 : Int).toNat * 8, none⟩ = false := hfr11 0
    have hf11_1 : w9.frozen? ⟨go11, (x4_1 : Int).toNat * 8 + 1, none⟩ = false := hfr11 1
    have hf11_2 : w9.frozen? ⟨go11, (x4_1 : Int).toNat * 8 + 2, none⟩ = false := hfr11 2
    have hf11_3 : w9.frozen? ⟨go11, (x4_1 : Int).toNat * 8 + 3, none⟩ = false := hfr11 3
    have hf11_4 : w9.frozen? ⟨go11, (x4_1 : Int).toNat * 8 + 4, none⟩ = false := hfr11 4
    have hf11_5 : w9.frozen? ⟨go11, (x4_1 : Int).toNat * 8 + 5, none⟩ = false := hfr11 5
    have hf11_6 : w9.frozen? ⟨go11, (x4_1 : Int).toNat * 8 + 6, none⟩ = false := hfr11 6
    have hf11_7 : w9.frozen? ⟨go11, (x4_1 : Int).toNat * 8 + 7, none⟩ = false := hfr11 7
    clear hcl11 hcc11 hfr11 hM11
    replace p11 := eq_true p11
    replace q11 := eq_true q11
    have n_ := Aside0.mk (Kd.S_mono (ok' := (fun k_ => some k_ ≠ (v215 : Value).ownBlock ∧ some k_ ≠ (v218 : Value).ownBlock ∧ some k_ ≠ (v221 : Value).ownBlock)) HO_3.out (fun k_ hk => ⟨hk.1.1.2, ⟨hk.1.2, hk.2⟩⟩))
    clear HO_3
    have HO_3 := n_
    clear n_
    have HX12 := Aside0.mk (show Kd.R k34 34 w9 w.heap.size (fun _ => True) (.slice (some ⟨go11, 0, none⟩) x3_1.length co11) x3_1 from (by (with_reducible repeat (first|apply rA|apply rN|apply rD|apply Kd.S_alloc|apply Kd.S_drewN|apply Kd.S_drew)); exact Kd.R_mono (kD_toR HO_3.out) (fun _ hk => trivial)))
    obtain ⟨ce12, hcl12, hM12, hcc12, hfr12⟩ := Kd.R_elem HX12.out z34 (x4_1 : Int) (odt) (by have h_ : (x4_1 : Int) < ((x3_1.length : Int) : Int) := odt; first | exact h_ | (have e_ := (Kd.R_reads' (kD_toR HO_3.out)).1; omega) | simpa using h_)
    obtain ⟨ve12_4, ve12_5, ve12_6, rfl, ge12_4, ge12_5, ge12_6⟩ := k34_openM hM12
    have HP12 := kD_put8 HN_.out.2.2.2.2 HN_.out.1 (x4_1 : Int) odt (by have h_ : (x4_1 : Int) < ((x3_1.length : Int) : Int) := odt; exact h_) (⟨t210, t211, t212, t213, t214, t217, t220, t223⟩ : S34) HN_.out.2.1 HN_.out.2.2.1 HN_.out.2.2.2.1
    have hx12_0 := hcc12 0 _ rfl
    (try simp only [show (k34).sz = 8 from rfl, Nat.mul_one, Nat.add_zero] at hx12_0)
    have hf12_0 := hfr12 0
    (try simp only [show (k34).sz = 8 from rfl, Nat.mul_one, Nat.add_zero] at hf12_0)
    have hx12_1 := hcc12 1 _ rfl
    (try simp only [show (k34).sz = 8 from rfl, Nat.mul_one, Nat.add_zero] at hx12_1)
    have hf12_1 := hfr12 1
    (try simp only [show (k34).sz = 8 from rfl, Nat.mul_one, Nat.add_zero] at hf12_1)
    have hx12_2 := hcc12 2 _ rfl
    (try simp only [show (k34).sz = 8 from rfl, Nat.mul_one, Nat.add_zero] at hx12_2)
    have hf12_2 := hfr12 2
    (try simp only [show (k34).sz = 8 from rfl, Nat.mul_one, Nat.add_zero] at hf12_2)
    have hx12_3 := hcc12 3 _ rfl
    (try simp only [show (k34).sz = 8 from rfl, Nat.mul_one, Nat.add_zero] at hx12_3)
    have hf12_3 := hfr12 3
    (try simp only [show (k34).sz = 8 from rfl, Nat.mul_one, Nat.add_zero] at hf12_3)
    have hx12_4 := hcc12 4 _ rfl
    (try simp only [show (k34).sz = 8 from rfl, Nat.mul_one, Nat.add_zero] at hx12_4)
    have hf12_4 := hfr12 4
    (try simp only [show (k34).sz = 8 from rfl, Nat.mul_one, Nat.add_zero] at hf12_4)
    have hx12_5 := hcc12 5 _ rfl
    (try simp only [show (k34).sz = 8 from rfl, Nat.mul_one, Nat.add_zero] at hx12_5)
    have hf12_5 := hfr12 5
    (try simp only [show (k34).sz = 8 from rfl, Nat.mul_one, Nat.add_zero] at hf12_5)
    have hx12_6 := hcc12 6 _ rfl
    (try simp only [show (k34).sz = 8 from rfl, Nat.mul_one, Nat.add_zero] at hx12_6)
    have hf12_6 := hfr12 6
    (try simp only [show (k34).sz = 8 from rfl, Nat.mul_one, Nat.add_zero] at hf12_6)
    have hx12_7 := hcc12 7 _ rfl
    (try simp only [show (k34).sz = 8 from rfl, Nat.mul_one, Nat.add_zero] at hx12_7)
    have hf12_7 := hfr12 7
    (try simp only [show (k34).sz = 8 from rfl, Nat.mul_one, Nat.add_zero] at hf12_7)
    clear hcl12 hcc12 hfr12 hM12
    go_wp2_with (first | ((with_reducible refine gate_store (t := 34) (p := 21) rfl ?_); refine store_event (t := 34) (p := 21) (v := ?vo_w13) (w1 := ((((((((w9.setCell ⟨go11, (x4_1 : Int).toNat * 8, none⟩ (.int .i64 t210)).setCell ⟨go11, (x4_1 : Int).toNat * 8 + 1, none⟩ (.string t211)).setCell ⟨go11, (x4_1 : Int).toNat * 8 + 2, none⟩ (.string t212)).setCell ⟨go11, (x4_1 : Int).toNat * 8 + 3, none⟩ (.string t213)).setCell ⟨go11, (x4_1 : Int).toNat * 8 + 4, none⟩ (v215)).setCell ⟨go11, (x4_1 : Int).toNat * 8 + 5, none⟩ (v218)).setCell ⟨go11, (x4_1 : Int).toNat * 8 + 6, none⟩ (v221)).setCell ⟨go11, (x4_1 : Int).toNat * 8 + 7, none⟩ (.string t223))) ?hg ?ho ?hn ?hr ?_; (case ho => rfl); (case hg => rfl); (case hn => rfl); (case hr => ((try (obtain ⟨a_, c_, e_⟩ := Kd.R_slice HO216.out; subst e_)); (try (obtain ⟨a_, c_, e_⟩ := Kd.R_slice HO219.out; subst e_)); (try (obtain ⟨a_, c_, e_⟩ := Kd.S_slice HO222.out; subst e_)); first | (go_simp; done) | (go_simp; rfl))); intro w13 hw; have hg : w9.grownBy w13 (some go11) := (by rw [hw]; exact HP12.2); have hp_ : Kd.S kD 34 w13 w.heap.size (fun _ => True) (.slice (some ⟨go11, 0, none⟩) x3_1.length co11) y224 := (by rw [hw, Ny224.out]; exact HP12.1); clear HP12; replace HO_3 := Aside0.mk (hp_); replace HB := Aside0.mk ((by rw [hw]; exact below_set (below_set (below_set (below_set (below_set (below_set (below_set (below_set (HB.out) GB11.out) GB11.out) GB11.out) GB11.out) GB11.out) GB11.out) GB11.out) GB11.out : Below w.heap.size w w13)); clear HO216; clear HO219; clear HO222; clear hg hw hp_))
    go_roundg k1
    case measure => have := HK1.out; omega
    case rel => exact ⟨(y224), (wrap64 (x4_1 + 1)), rG, H', ⟨by have := HK1.out; omega⟩, ⟨by (with_reducible repeat (first|apply rA|apply rN|apply rD|apply Kd.S_alloc|apply Kd.S_drewN|apply Kd.S_drew)); exact HO_3.out⟩, ⟨hB⟩⟩
   ·rw [if_neg c6] at H
    have c6b0 : decide (x4_1 < (l0.length : Int)) = false := decide_eq_false c6
    clear c6
    obtain rfl := Option.some.inj H
    go_wp2
    go_ret
    exact ⟨_, rE, by (with_reducible repeat (first|apply rA|apply rN|apply rD|apply Kd.S_alloc|apply Kd.S_drewN|apply Kd.S_drew)); exact HO_3.out, hB⟩
def laws_toNode.f (k : Nat) (a0_0 : Int) (a0_1 : ByteArray) (a0_2 : ByteArray) (a0_3 : ByteArray) (l0_4 : List (S84)) (l0_5 : List (S87)) (l0_6 : List (S26)) (a0_7 : ByteArray) : Option (Int × ByteArray × ByteArray × ByteArray × (List (S88)) × (List (S90)) × (List (S34)) × ByteArray) := laws_toNode.F (laws_toNodeS.f k) k a0_0 a0_1 a0_2 a0_3 l0_4 l0_5 l0_6 a0_7
theorem laws_toNode.callsD (k : Nat) (a0_0 : Int) (a0_1 : ByteArray) (a0_2 : ByteArray) (a0_3 : ByteArray) (A0_4 : Option Addr) (c0_4 : Nat) (l0_4 : List (S84)) (A0_5 : Option Addr) (c0_5 : Nat) (l0_5 : List (S87)) (A0_6 : Option Addr) (c0_6 : Nat) (l0_6 : List (S26)) (a0_7 : ByteArray) (r1 : Int) (r2 : ByteArray) (r3 : ByteArray) (r4 : ByteArray) (r5 : List (S88)) (r6 : List (S90)) (r7 : List (S34)) (r8 : ByteArray) (w : World) (hr0_4 : Kd.C k84 w A0_4 l0_4.length l0_4) (hc0_4 : l0_4.length ≤ c0_4) (hr0_5 : Kd.C k87 w A0_5 l0_5.length l0_5) (hc0_5 : l0_5.length ≤ c0_5) (hr0_6 : Kd.C k26 w A0_6 l0_6.length l0_6) (hc0_6 : l0_6.length ≤ c0_6) (h : laws_toNode.f k a0_0 a0_1 a0_2 a0_3 l0_4 l0_5 l0_6 a0_7 = some (r1, r2, r3, r4, r5, r6, r7, r8)) :
  Calls Try.prog 10 #[.agg #[.int .i64 a0_0, .string a0_1, .string a0_2, .string a0_3, .slice A0_4 l0_4.length c0_4, .slice A0_5 l0_5.length c0_5, .slice A0_6 l0_6.length c0_6, .string a0_7]] w fun e w' => ∃ v4_ v5_ v6_ : Value, e = .returned (.agg #[.int .i64 r1, .string r2, .string r3, .string r4, v4_, v5_, v6_, .string r8]) ∧ Kd.R k88 88 w' w.heap.size (fun _ => True) v4_ r5 ∧ Kd.R k90 90 w' w.heap.size (fun _ => True) v5_ r6 ∧ Kd.S kD 34 w' w.heap.size (fun k_ => some k_ ≠ (v4_ : Value).ownBlock ∧ some k_ ≠ (v5_ : Value).ownBlock) v6_ r7 ∧ Below w.heap.size w w' := laws_toNode.callsF (laws_toNodeS.f k) (laws_toNodeS.callsD k) k a0_0 a0_1 a0_2 a0_3 A0_4 c0_4 l0_4 A0_5 c0_5 l0_5 A0_6 c0_6 l0_6 a0_7 r1 r2 r3 r4 r5 r6 r7 r8 w hr0_4 hc0_4 hr0_5 hc0_5 hr0_6 hc0_6 h
theorem laws_toNodeS.calls (k : Nat) : ∀ (A0 : Option Addr) (c0 : Nat) (l0 : List (S26)) (r : List (S34)) (w : World) (hr0 : Kd.C k26 w A0 l0.length l0) (hc0 : l0.length ≤ c0) (h : laws_toNodeS.f k l0 = some r),
  Calls Try.prog 19 #[.slice A0 l0.length c0] w fun e w' => ∃ v0_ : Value, e = .returned (v0_) ∧ Kd.R k34 34 w' w.heap.size (fun _ => True) v0_ r ∧ Below w.heap.size w w' := by
  intro A0 c0 l0 r w hr0 hc0 h
  refine (laws_toNodeS.callsD k A0 c0 l0 r w hr0 hc0 h).mono ?_
  rintro e w' ⟨v, rfl, h1, h2⟩
  exact ⟨v, rfl, kD_toR h1, h2⟩
theorem laws_toNode.calls (k : Nat) (a0_0 : Int) (a0_1 : ByteArray) (a0_2 : ByteArray) (a0_3 : ByteArray) (A0_4 : Option Addr) (c0_4 : Nat) (l0_4 : List (S84)) (A0_5 : Option Addr) (c0_5 : Nat) (l0_5 : List (S87)) (A0_6 : Option Addr) (c0_6 : Nat) (l0_6 : List (S26)) (a0_7 : ByteArray) (r1 : Int) (r2 : ByteArray) (r3 : ByteArray) (r4 : ByteArray) (r5 : List (S88)) (r6 : List (S90)) (r7 : List (S34)) (r8 : ByteArray) (w : World) (hr0_4 : Kd.C k84 w A0_4 l0_4.length l0_4) (hc0_4 : l0_4.length ≤ c0_4) (hr0_5 : Kd.C k87 w A0_5 l0_5.length l0_5) (hc0_5 : l0_5.length ≤ c0_5) (hr0_6 : Kd.C k26 w A0_6 l0_6.length l0_6) (hc0_6 : l0_6.length ≤ c0_6) (h : laws_toNode.f k a0_0 a0_1 a0_2 a0_3 l0_4 l0_5 l0_6 a0_7 = some (r1, r2, r3, r4, r5, r6, r7, r8)) :
  Calls Try.prog 10 #[.agg #[.int .i64 a0_0, .string a0_1, .string a0_2, .string a0_3, .slice A0_4 l0_4.length c0_4, .slice A0_5 l0_5.length c0_5, .slice A0_6 l0_6.length c0_6, .string a0_7]] w fun e w' => ∃ v4_ v5_ v6_ : Value, e = .returned (.agg #[.int .i64 r1, .string r2, .string r3, .string r4, v4_, v5_, v6_, .string r8]) ∧ Kd.R k88 88 w' w.heap.size (fun _ => True) v4_ r5 ∧ Kd.R k90 90 w' w.heap.size (fun _ => True) v5_ r6 ∧ Kd.R k34 34 w' w.heap.size (fun k_ => some k_ ≠ (v4_ : Value).ownBlock ∧ some k_ ≠ (v5_ : Value).ownBlock) v6_ r7 ∧ Below w.heap.size w w' := by
  refine (laws_toNode.callsD k a0_0 a0_1 a0_2 a0_3 A0_4 c0_4 l0_4 A0_5 c0_5 l0_5 A0_6 c0_6 l0_6 a0_7 r1 r2 r3 r4 r5 r6 r7 r8 w hr0_4 hc0_4 hr0_5 hc0_5 hr0_6 hc0_6 h).mono ?_
  rintro e w' ⟨v4, v5, v6, rfl, h1, h2, h3, h4⟩
  exact ⟨v4, v5, v6, rfl, h1, h2, kD_toR h3, h4⟩

/-! ### laws_markText: function 48 -/
def laws_markText.l0 : Nat → Int → ByteArray → Option (ByteArray)
 | 0, _, _ => none
 | k + 1, x0, x3 => if x0 > 0 then ((some (([(wrap64 (48 + (Int.tmod x0 10))) % 256] : List Int) : List Int)).bind fun y225 => (if (strOfNums y225).size + x3.size ≤ 9223372036854775807 then (laws_markText.l0 k (wrap64 (Int.tdiv x0 10)) ((strOfNums y225) ++ x3)) else (none))) else (if 1 + x3.size ≤ 9223372036854775807 then (some ((⟨#[109]⟩ : ByteArray) ++ x3)) else (none))
def laws_markText.f (k : Nat) (a0 : Int) : Option (ByteArray) := if a0 ≤ 0 then (some (⟨#[109, 48]⟩ : ByteArray)) else (laws_markText.l0 k a0 (⟨#[]⟩ : ByteArray))
theorem laws_markText.calls (k : Nat) (a0 : Int) (r : ByteArray) (w : World) (h : laws_markText.f k a0 = some r) :
  Calls Try.prog 48 #[.int .i64 a0] w fun e w' => e = .returned (.string r) ∧ Below w.heap.size w w' := by
 have HB := Aside0.mk (Below.refl w.heap.size w)
 have H : (if a0 ≤ 0 then (some (⟨#[109, 48]⟩ : ByteArray)) else (laws_markText.l0 k a0 (⟨#[]⟩ : ByteArray))) = some r := h
 clear h
 by_cases c2 : a0 ≤ 0
 ·rw [if_pos c2] at H
  have c2b0 : decide (a0 ≤ 0) = true := decide_eq_true c2
  clear c2
  obtain rfl := Option.some.inj H
  go_enter Try.func48, Try.ntmps48
  go_wp2
  go_ret
  exact ⟨rE, hB⟩
 ·rw [if_neg c2] at H
  have c2b0 : decide (a0 ≤ 0) = false := decide_eq_false c2
  clear c2
  have H' := Aside0.mk H
  clear H
  go_enter Try.func48, Try.ntmps48
  go_wp2
  go_loopg [0, 3] k (fun kq v0 v3 w' => ∃ (x0_1 : Int) (x3_1 : ByteArray), v0 = .int .i64 x0_1 ∧ v3 = .string x3_1 ∧ Aside0 (laws_markText.l0 kq x0_1 x3_1 = some r) ∧ Aside0 (kq ≤ k) ∧ Aside0 (Below w.heap.size w w'))
  case atStart => exact ⟨(a0), ((⟨#[]⟩ : ByteArray)), rG, rG, H', ⟨Nat.le_refl _⟩, ⟨hB⟩⟩
  case round =>
   clear H'
   try clear c2; try clear c2b0
   obtain ⟨x0_1, x3_1, rfl, rfl, HA, HK1, HB⟩ := hrel
   cases gk with
   | zero => exact absurd HA.out (by simp [laws_markText.l0])
   | succ k1 =>
    have H := HA.out
    clear HA
    simp only [laws_markText.l0] at H
    by_cases c3 : x0_1 > 0
    ·rw [if_pos c3] at H
     have c3b0 : decide (0 < x0_1) = true := decide_eq_true c3
     clear c3
     obtain ⟨y225, hy225⟩ : ∃ y_ : List Int, y_ = (([(wrap64 (48 + (Int.tmod x0_1 10))) % 256] : List Int)) := ⟨_, rfl⟩
     replace H : (if (strOfNums y225).size + x3_1.size ≤ 9223372036854775807 then (laws_markText.l0 k1 (wrap64 (Int.tdiv x0_1 10)) ((strOfNums y225) ++ x3_1)) else (none)) = some r := by first | (rw [hy225]; with_reducible exact H) | (have H2_ := (Option.bind_some _ _).symm.trans H; rw [hy225]; with_reducible exact H2_) | (have H2_ := (Option.bind_some _ _).symm.trans H; with_reducible exact H2_) | with_reducible exact H | (rw [hy225]; exact H) | exact H
     have Ny225 := Aside0.mk hy225
     clear hy225
     obtain ⟨c4, H⟩ := if_som H
     obtain ⟨c4b0, c4b1⟩ := fcT c4
     try have c4b2 : (9223372036854775807 < (strOfNums y225).size + x3_1.size) = False := eq_false (Nat.not_lt.2 c4)
     have H' := Aside0.mk H
     clear H
     go_wp2_with (first | ((with_reducible refine gate_dst (N := 12) rfl ?_); refine Kd.R_lit (Kd.int .u8) _ 5 ?hg (N := 12) ?hd (xs := ([(wrap64 (48 + (Int.tmod x0_1 10))) % 256] : List Int)) (inner := [.int .u8 ((wrap64 (48 + (Int.tmod x0_1 10))) % 256)]) (ok := fun _ => True) (okp := fun _ => True) ?hr ?hp (fun _ hk => hk) trivial (Below.refl _ _) (Nat.le_refl _) (by simp) ?_; (case hd => rfl); (case hg => rfl); (case hr => first | (go_simp; done) | (go_simp; rfl)); (case hp => exact (Reps.one (show Kd.M (Kd.int .u8) _ _ _ ((wrap64 (48 + (Int.tmod x0_1 10))) % 256) [.int .u8 ((wrap64 (48 + (Int.tmod x0_1 10))) % 256)] from rfl) (Reps.none _ _))); intro v226 w5 ho6 hb hg_ hnew_; clear hg_ hnew_; (first | rw [← Ny225.out] at ho6 | (simp only [Int.reduceToNat] at ho6; rw [← Ny225.out] at ho6)); have HO227 := Aside0.mk (Kd.R_lower ho6 (below_size hB)); replace HB := Aside0.mk (below_step hB hb); clear hb ho6; have hcv7 := own_string (P := Try.prog) Try.underlying56 Try.underlying5 Try.underlying9 (Kd.own_of_R HO227.out)))
     go_roundg k1
     case measure => have := HK1.out; omega
     case rel => exact ⟨(wrap64 (Int.tdiv x0_1 10)), ((strOfNums y225) ++ x3_1), rG, rG, H', ⟨by have := HK1.out; omega⟩, ⟨hB⟩⟩
    ·rw [if_neg c3] at H
     have c3b0 : decide (0 < x0_1) = false := decide_eq_false c3
     clear c3
     obtain ⟨c8, H⟩ := if_som H
     obtain ⟨c8b0, c8b1⟩ := fcT c8
     try have c8b2 : (9223372036854775807 < 1 + x3_1.size) = False := eq_false (Nat.not_lt.2 c8)
     obtain rfl := Option.some.inj H
     go_wp2
     go_ret
     exact ⟨rE, hB⟩
/-! ### laws_markDeclS: function 43 -/
def laws_markDeclS.l0 : Nat → List (S88) → Int → Int → Option (Int × (List (S88)))
 | 0, _, _, _ => none
 | k + 1, x0, x1, x5 => if x5 < (x0.length : Int) then ((laws_markText.f k x1).bind fun t228 => (if 0 ≤ x5 then ((some (x0.set (x5 : Int).toNat (⟨t228, (rd_T88 x0 x5).f1⟩ : S88) : List (S88))).bind fun y229 => ((laws_markText.f k (wrap64 (x1 + 1))).bind fun t230 => (laws_markDeclS.l0 k (y229.set (x5 : Int).toNat (⟨(rd_T88 y229 x5).f0, t230⟩ : S88)) (wrap64 ((wrap64 (x1 + 1)) + 1)) (wrap64 (x5 + 1))))) else (none))) else (some (x1, x0))
def laws_markDeclS.f (k : Nat) (l0 : List (S88)) (a1 : Int) : Option (Int × (List (S88))) := laws_markDeclS.l0 k l0 a1 0
theorem laws_markDeclS.calls (k : Nat) (P0_ : Nat → Prop) (u9000_ : Value) (l0 : List (S88)) (a1 : Int) (r1 : Int) (r2 : List (S88)) (w0 w : World) (hB : Below w0.heap.size w0 w) (ho0 : Kd.R k88 88 w w0.heap.size P0_ u9000_ l0) (h : laws_markDeclS.f k l0 a1 = some (r1, r2)) :
  Calls Try.prog 43 #[u9000_, .int .i64 a1] w fun e w' => e = .returned (.int .i64 r1) ∧ Kd.R k88 88 w' w0.heap.size (fun k_ => (P0_ k_ ∨ w.heap.size ≤ k_)) u9000_ r2 ∧ Below w0.heap.size w0 w' ∧ Kept w w' (fun k_ => P0_ k_) := by
 have HO0 := Aside0.mk (show Kd.R k88 88 w w0.heap.size (fun k_ => (P0_ k_ ∨ w.heap.size ≤ k_)) u9000_ l0 from Kd.R_mono ho0 (fun k_ hk => (.inl hk)))
 have HK := Aside0.mk (Kept.refl w (fun k_ => P0_ k_))
 have HW0 := Aside0.mk hB.size
 have HB := Aside0.mk hB
 clear hB
 have H : (laws_markDeclS.l0 k l0 a1 0) = some (r1, r2) := h
 clear h
 have H' := Aside0.mk H
 clear H
 go_enter Try.func43, Try.ntmps43
 go_wp2
 go_loopg [1, 5] k (fun kq v1 v5 w' => ∃ (x0_1 : List (S88)) (x1_1 : Int) (x5_1 : Int), v1 = .int .i64 x1_1 ∧ v5 = .int .i64 x5_1 ∧ Aside0 (laws_markDeclS.l0 kq x0_1 x1_1 x5_1 = some (r1, r2)) ∧ Aside0 (kq ≤ k) ∧ Aside0 (Kd.R k88 88 w' w0.heap.size (fun k_ => (P0_ k_ ∨ w.heap.size ≤ k_)) u9000_ x0_1) ∧ Aside0 (Kept w w' (fun k_ => P0_ k_)) ∧ Aside0 (Below w0.heap.size w0 w'))
 case atStart => exact ⟨(l0), (a1), (0), rG, rG, H', ⟨Nat.le_refl _⟩, ⟨by (with_reducible repeat (first|apply rA|apply rN|apply rD)); exact HO0.out⟩, ⟨by repeat (first|(with_reducible first|exact HK.out | apply Kept.alloc | apply Kept.drewN | apply Kept.drew) | exact HK.out)⟩, ⟨hB⟩⟩
 case round =>
  clear H'
  obtain ⟨x0_1, x1_1, x5_1, rfl, rfl, HA, HK1, HO_0, HK, HB⟩ := hrel
  cases gk with
  | zero => exact absurd HA.out (by simp [laws_markDeclS.l0])
  | succ k1 =>
   have H := HA.out
   clear HA
   simp only [laws_markDeclS.l0] at H
   by_cases c3 : x5_1 < (x0_1.length : Int)
   ·rw [if_pos c3] at H
    have c3b0 : decide (x5_1 < (x0_1.length : Int)) = true := decide_eq_true c3
    clear c3
    replace H := Option.bind_eq_some_iff.mp H
    obtain ⟨t228, A40, H⟩ := H
    try dsimp only at H
    have A4 := Aside0.mk A40
    clear A40
    obtain ⟨Ao5, co5, eo5⟩ := Kd.R_slice HO_0.out
    subst eo5
    go_wp2_with (first | ((with_reducible refine gate_callee (f := 48) rfl ?_); refine goesL_ (some 15) rfl rfl Try.func48 (by kernel_rfl) rfl #[.int .i64 x1_1] rfl mA ?_; (with_reducible refine (laws_markText.calls k1 x1_1 t228 _ A4.out).mono ?_); rintro e w6 ⟨rfl, hb⟩; refine ⟨_, rfl, ?_⟩; replace HO_0 := Aside0.mk (Kd.R_below (by (with_reducible repeat (first|apply rA|apply rN|apply rD)); exact HO_0.out) hb); replace HK := Aside0.mk (Kept.below (S := (fun k_ => P0_ k_)) (by repeat (first|(with_reducible first|exact HK.out | apply Kept.alloc | apply Kept.drewN | apply Kept.drew) | exact HK.out)) hb); replace HB := Aside0.mk (below_step hB hb); (try clear hb); (try clear hb2); (try clear hk); (try clear hi); refine halt_ ?_; intro q_ hq_))
    obtain ⟨rfl⟩ := hq_
    obtain ⟨c7, H⟩ := if_som H
    have c7b0 : decide (0 ≤ x5_1) = true := decide_eq_true c7
    clear c7
    obtain ⟨y229, hy229⟩ : ∃ y_ : List (S88), y_ = (x0_1.set (x5_1 : Int).toNat (⟨t228, (rd_T88 x0_1 x5_1).f1⟩ : S88)) := ⟨_, rfl⟩
    replace H : ((laws_markText.f k1 (wrap64 (x1_1 + 1))).bind fun t230 => (laws_markDeclS.l0 k1 (y229.set (x5_1 : Int).toNat (⟨(rd_T88 y229 x5_1).f0, t230⟩ : S88)) (wrap64 ((wrap64 (x1_1 + 1)) + 1)) (wrap64 (x5_1 + 1)))) = some (r1, r2) := by first | (rw [hy229]; with_reducible exact H) | (have H2_ := (Option.bind_some _ _).symm.trans H; rw [hy229]; with_reducible exact H2_) | (have H2_ := (Option.bind_some _ _).symm.trans H; with_reducible exact H2_) | with_reducible exact H | (rw [hy229]; exact H) | exact H
    have Ny229 := Aside0.mk hy229
    clear hy229
    replace H := Option.bind_eq_some_iff.mp H
    obtain ⟨t230, A90, H⟩ := H
    try dsimp only at H
    have A9 := Aside0.mk A90
    clear A90
    obtain ⟨y231, hy231⟩ : ∃ y_ : List (S88), y_ = (y229.set (x5_1 : Int).toNat (⟨(rd_T88 y229 x5_1).f0, t230⟩ : S88)) := ⟨_, rfl⟩
    replace H : (laws_markDeclS.l0 k1 y231 (wrap64 ((wrap64 (x1_1 + 1)) + 1)) (wrap64 (x5_1 + 1))) = some (r1, r2) := by first | (rw [hy231]; with_reducible exact H) | (have H2_ := (Option.bind_some _ _).symm.trans H; rw [hy231]; with_reducible exact H2_) | (have H2_ := (Option.bind_some _ _).symm.trans H; with_reducible exact H2_) | with_reducible exact H | (rw [hy231]; exact H) | exact H
    have Ny231 := Aside0.mk hy231
    clear hy231
    have H' := Aside0.mk H
    clear H
    have p8 : 0 ≤ (x5_1 : Int) := odt
    have q8 : (x5_1 : Int) < ((x0_1.length : Int) : Int) := odt
    obtain ⟨go8, co8, eo8, gb8, gl8, cl8, HG8⟩ := Kd.R_form HO_0.out (by omega)
    (first | cases eo8 | (injection eo8 with ea_ en_ ec_; (first | subst ea_ | (injection ea_ with ea_; subst ea_)); subst ec_; clear en_))
    have GB8 := Aside0.mk gb8
    have GG8 := Aside0.mk HG8
    clear gb8 gl8 HG8
    have HMgo8 := Aside0.mk (show (P0_ go8 ∨ w.heap.size ≤ go8) from (HO_0.out.1 _ rfl))
    obtain ⟨ce8, hcl8, hM8, hcc8, hfr8⟩ := Kd.R_elem HO_0.out z88 (x5_1 : Int) p8 q8
    obtain rfl := k88_openM hM8
    have hx8_0 : w6.cell? ⟨go8, (x5_1 : Int).toNat * 2, none⟩ = some (.string ((rd_T88 x0_1 x5_1).f0)) := hcc8 0 _ rfl
    have hx8_1 : w6.cell? ⟨go8, (x5_1 : Int).toNat * 2 + 1, none⟩ = some (.string ((rd_T88 x0_1 x5_1).f1)) := hcc8 1 _ rfl
    have hf8_0 : w6.frozen? ⟨go8, (x5_1 : Int).toNat * 2, none⟩ = false := hfr8 0
    have hf8_1 : w6.frozen? ⟨go8, (x5_1 : Int).toNat * 2 + 1, none⟩ = false := hfr8 1
    clear hcl8 hcc8 hfr8 hM8
    replace p8 := eq_true p8
    replace q8 := eq_true q8
    have HX11 := Aside0.mk (show Kd.R k88 88 w6 w0.heap.size (fun k_ => (P0_ k_ ∨ w.heap.size ≤ k_)) (.slice (some ⟨go8, 0, none⟩) x0_1.length co5) x0_1 from (by (with_reducible repeat (first|apply rA|apply rN|apply rD)); exact HO_0.out))
    obtain ⟨ce11, hcl11, hM11, hcc11, hfr11⟩ := Kd.R_elem HX11.out z88 (x5_1 : Int) (odt) (by have h_ : (x5_1 : Int) < ((x0_1.length : Int) : Int) := odt; first | exact h_ | (have e_ := (Kd.R_reads' HO_0.out).1; omega) | simpa using h_)
    obtain rfl := k88_openM hM11
    have HP11 := Kd.R_seg HX11.out (x5_1 : Int) (odt) (by have h_ : (x5_1 : Int) < ((x0_1.length : Int) : Int) := odt; first | exact h_ | (have e_ := (Kd.R_reads' HO_0.out).1; omega) | simpa using h_) (seg := [.string t228]) (j := 0) hcl11 hcc11 (show 1 ≤ 2 from by decide) (x' := (⟨t228, (rd_T88 x0_1 x5_1).f1⟩ : S88)) (k88_mkM _ _ _ (⟨t228, (rd_T88 x0_1 x5_1).f1⟩ : S88) ) (fun _ hk => hk)
    have hx11_0 := hcc11 0 _ rfl
    (try simp only [show (k88).sz = 2 from rfl, Nat.mul_one, Nat.add_zero] at hx11_0)
    have hf11_0 := hfr11 0
    (try simp only [show (k88).sz = 2 from rfl, Nat.mul_one, Nat.add_zero] at hf11_0)
    clear hcl11 hcc11 hfr11 hM11
    go_wp2_with (first | ((with_reducible refine gate_store (t := 9) (p := 17) rfl ?_); refine store_event (t := 9) (p := 17) (v := ?vo_w12) (w1 := (w6.setCell ⟨go8, (x5_1 : Int).toNat * 2, none⟩ (.string t228))) ?hg ?ho ?hn ?hr ?_; (case ho => rfl); (case hg => rfl); (case hn => rfl); (case hr => first | (go_simp; done) | (go_simp; rfl)); intro w12 hw; have hg : w6.grownBy w12 (some go8) := (by rw [hw]; exact HP11.2); have hp_ : Kd.R k88 88 w12 w0.heap.size (fun k_ => (P0_ k_ ∨ w.heap.size ≤ k_)) (.slice (some ⟨go8, 0, none⟩) x0_1.length co5) y229 := (by rw [hw, Ny229.out]; exact HP11.1); clear HP11; replace HB := Aside0.mk ((by rw [hw]; exact below_set (HB.out) GB8.out : Below w0.heap.size w0 w12)); replace HK := Aside0.mk (Kept.of_grown (S := (fun k_ => P0_ k_)) hg (by repeat (first|(with_reducible first|exact HK.out | apply Kept.alloc | apply Kept.drewN | apply Kept.drew) | exact HK.out)) (fun k_ e_ => (HO_0.out.1 k_ e_))); replace HO_0 := Aside0.mk (hp_); clear hg hw hp_) | ((with_reducible refine gate_callee (f := 48) rfl ?_); refine goesL_ (some 23) rfl rfl Try.func48 (by kernel_rfl) rfl #[.int .i64 (wrap64 (x1_1 + 1))] rfl mA ?_; (with_reducible refine (laws_markText.calls k1 (wrap64 (x1_1 + 1)) t230 _ A9.out).mono ?_); rintro e w13 ⟨rfl, hb⟩; refine ⟨_, rfl, ?_⟩; replace HO_0 := Aside0.mk (Kd.R_below (by (with_reducible repeat (first|apply rA|apply rN|apply rD)); exact HO_0.out) hb); replace HK := Aside0.mk (Kept.below (S := (fun k_ => P0_ k_)) (by repeat (first|(with_reducible first|exact HK.out | apply Kept.alloc | apply Kept.drewN | apply Kept.drew) | exact HK.out)) hb); replace HB := Aside0.mk (below_step hB hb); (try clear hb); (try clear hb2); (try clear hk); (try clear hi); have p10 : 0 ≤ (x5_1 : Int) := odt; have q10 : (x5_1 : Int) < ((x0_1.length : Int) : Int) := odt; obtain ⟨ce10, hcl10, hM10, hcc10, hfr10⟩ := Kd.R_elem HO_0.out z88 (x5_1 : Int) p10 q10; obtain rfl := k88_openM hM10; have hx10_0 : w13.cell? ⟨go8, (x5_1 : Int).toNat * 2, none⟩ = some (.string ((rd_T88 y229 x5_1).f0)) := hcc10 0 _ rfl; have hx10_1 : w13.cell? ⟨go8, (x5_1 : Int).toNat * 2 + 1, none⟩ = some (.string ((rd_T88 y229 x5_1).f1)) := hcc10 1 _ rfl; have hf10_0 : w13.frozen? ⟨go8, (x5_1 : Int).toNat * 2, none⟩ = false := hfr10 0; have hf10_1 : w13.frozen? ⟨go8, (x5_1 : Int).toNat * 2 + 1, none⟩ = false := hfr10 1; clear hcl10 hcc10 hfr10 hM10; replace p10 := eq_true p10; replace q10 := eq_true q10; have HX14 := Aside0.mk (show Kd.R k88 88 w13 w0.heap.size (fun k_ => (P0_ k_ ∨ w.heap.size ≤ k_)) (.slice (some ⟨go8, 0, none⟩) x0_1.length co5) y229 from (by (with_reducible repeat (first|apply rA|apply rN|apply rD)); exact HO_0.out)); obtain ⟨ce14, hcl14, hM14, hcc14, hfr14⟩ := Kd.R_elem HX14.out z88 (x5_1 : Int) (odt) (by have h_ : (x5_1 : Int) < ((x0_1.length : Int) : Int) := odt; first | exact h_ | (have e_ := (Kd.R_reads' HO_0.out).1; omega) | simpa using h_); obtain rfl := k88_openM hM14; have HP14 := Kd.R_seg HX14.out (x5_1 : Int) (odt) (by have h_ : (x5_1 : Int) < ((x0_1.length : Int) : Int) := odt; first | exact h_ | (have e_ := (Kd.R_reads' HO_0.out).1; omega) | simpa using h_) (seg := [.string t230]) (j := 1) hcl14 hcc14 (show 2 ≤ 2 from by decide) (x' := (⟨(rd_T88 y229 x5_1).f0, t230⟩ : S88)) (k88_mkM _ _ _ (⟨(rd_T88 y229 x5_1).f0, t230⟩ : S88) ) (fun _ hk => hk); have hx14_1 := hcc14 1 _ rfl; (try simp only [show (k88).sz = 2 from rfl, Nat.mul_one, Nat.add_zero] at hx14_1); have hf14_1 := hfr14 1; (try simp only [show (k88).sz = 2 from rfl, Nat.mul_one, Nat.add_zero] at hf14_1); clear hcl14 hcc14 hfr14 hM14) | ((with_reducible refine gate_store (t := 9) (p := 25) rfl ?_); refine store_event (t := 9) (p := 25) (v := ?vo_w15) (w1 := (w13.setCell ⟨go8, (x5_1 : Int).toNat * 2 + 1, none⟩ (.string t230))) ?hg ?ho ?hn ?hr ?_; (case ho => rfl); (case hg => rfl); (case hn => rfl); (case hr => first | (go_simp; done) | (go_simp; rfl)); intro w15 hw; have hg : w13.grownBy w15 (some go8) := (by rw [hw]; exact HP14.2); have hp_ : Kd.R k88 88 w15 w0.heap.size (fun k_ => (P0_ k_ ∨ w.heap.size ≤ k_)) (.slice (some ⟨go8, 0, none⟩) x0_1.length co5) y231 := (by rw [hw, Ny231.out]; exact HP14.1); clear HP14; replace HB := Aside0.mk ((by rw [hw]; exact below_set (HB.out) GB8.out : Below w0.heap.size w0 w15)); replace HK := Aside0.mk (Kept.of_grown (S := (fun k_ => P0_ k_)) hg (by repeat (first|(with_reducible first|exact HK.out | apply Kept.alloc | apply Kept.drewN | apply Kept.drew) | exact HK.out)) (fun k_ e_ => (HO_0.out.1 k_ e_))); replace HO_0 := Aside0.mk (hp_); clear hg hw hp_))
    go_roundg k1
    case measure => have := HK1.out; omega
    case rel => exact ⟨(y231), (wrap64 ((wrap64 (x1_1 + 1)) + 1)), (wrap64 (x5_1 + 1)), rG, rG, H', ⟨by have := HK1.out; omega⟩, ⟨by (with_reducible repeat (first|apply rA|apply rN|apply rD)); exact HO_0.out⟩, ⟨by repeat (first|(with_reducible first|exact HK.out | apply Kept.alloc | apply Kept.drewN | apply Kept.drew) | exact HK.out)⟩, ⟨hB⟩⟩
   ·rw [if_neg c3] at H
    have c3b0 : decide (x5_1 < (x0_1.length : Int)) = false := decide_eq_false c3
    clear c3
    simp only [Option.some.injEq, Prod.mk.injEq] at H
    obtain ⟨rfl, rfl⟩ := H
    obtain ⟨Ao16, co16, eo16⟩ := Kd.R_slice HO_0.out
    subst eo16
    go_wp2
    go_ret
    exact ⟨rE, by (with_reducible repeat (first|apply rA|apply rN|apply rD)); exact HO_0.out, hB, by repeat (first|(with_reducible first|exact HK.out | apply Kept.alloc | apply Kept.drewN | apply Kept.drew) | exact HK.out)⟩

/-! ### laws_markAttrS: function 44 -/
def laws_markAttrS.l0 : Nat → List (S90) → Int → Int → Option (Int × (List (S90)))
 | 0, _, _, _ => none
 | k + 1, x0, x1, x5 => if x5 < (x0.length : Int) then ((laws_markText.f k x1).bind fun t232 => (if 0 ≤ x5 then ((some (x0.set (x5 : Int).toNat (⟨t232, (rd_T90 x0 x5).f1, (rd_T90 x0 x5).f2, (rd_T90 x0 x5).f3⟩ : S90) : List (S90))).bind fun y233 => ((laws_markText.f k (wrap64 (x1 + 1))).bind fun t234 => ((some (y233.set (x5 : Int).toNat (⟨(rd_T90 y233 x5).f0, t234, (rd_T90 y233 x5).f2, (rd_T90 y233 x5).f3⟩ : S90) : List (S90))).bind fun y235 => ((laws_markText.f k (wrap64 ((wrap64 (x1 + 1)) + 1))).bind fun t236 => ((some (y235.set (x5 : Int).toNat (⟨(rd_T90 y235 x5).f0, (rd_T90 y235 x5).f1, t236, (rd_T90 y235 x5).f3⟩ : S90) : List (S90))).bind fun y237 => ((laws_markText.f k (wrap64 ((wrap64 ((wrap64 (x1 + 1)) + 1)) + 1))).bind fun t238 => (laws_markAttrS.l0 k (y237.set (x5 : Int).toNat (⟨(rd_T90 y237 x5).f0, (rd_T90 y237 x5).f1, (rd_T90 y237 x5).f2, t238⟩ : S90)) (wrap64 ((wrap64 ((wrap64 ((wrap64 (x1 + 1)) + 1)) + 1)) + 1)) (wrap64 (x5 + 1))))))))) else (none))) else (some (x1, x0))
def laws_markAttrS.f (k : Nat) (l0 : List (S90)) (a1 : Int) : Option (Int × (List (S90))) := laws_markAttrS.l0 k l0 a1 0
theorem laws_markAttrS.calls (k : Nat) (P0_ : Nat → Prop) (u9000_ : Value) (l0 : List (S90)) (a1 : Int) (r1 : Int) (r2 : List (S90)) (w0 w : World) (hB : Below w0.heap.size w0 w) (ho0 : Kd.R k90 90 w w0.heap.size P0_ u9000_ l0) (h : laws_markAttrS.f k l0 a1 = some (r1, r2)) :
  Calls Try.prog 44 #[u9000_, .int .i64 a1] w fun e w' => e = .returned (.int .i64 r1) ∧ Kd.R k90 90 w' w0.heap.size (fun k_ => (P0_ k_ ∨ w.heap.size ≤ k_)) u9000_ r2 ∧ Below w0.heap.size w0 w' ∧ Kept w w' (fun k_ => P0_ k_) := by
 have HO0 := Aside0.mk (show Kd.R k90 90 w w0.heap.size (fun k_ => (P0_ k_ ∨ w.heap.size ≤ k_)) u9000_ l0 from Kd.R_mono ho0 (fun k_ hk => (.inl hk)))
 have HK := Aside0.mk (Kept.refl w (fun k_ => P0_ k_))
 have HW0 := Aside0.mk hB.size
 have HB := Aside0.mk hB
 clear hB
 have H : (laws_markAttrS.l0 k l0 a1 0) = some (r1, r2) := h
 clear h
 have H' := Aside0.mk H
 clear H
 go_enter Try.func44, Try.ntmps44
 go_wp2
 go_loopg [1, 5] k (fun kq v1 v5 w' => ∃ (x0_1 : List (S90)) (x1_1 : Int) (x5_1 : Int), v1 = .int .i64 x1_1 ∧ v5 = .int .i64 x5_1 ∧ Aside0 (laws_markAttrS.l0 kq x0_1 x1_1 x5_1 = some (r1, r2)) ∧ Aside0 (kq ≤ k) ∧ Aside0 (Kd.R k90 90 w' w0.heap.size (fun k_ => (P0_ k_ ∨ w.heap.size ≤ k_)) u9000_ x0_1) ∧ Aside0 (Kept w w' (fun k_ => P0_ k_)) ∧ Aside0 (Below w0.heap.size w0 w'))
 case atStart => exact ⟨(l0), (a1), (0), rG, rG, H', ⟨Nat.le_refl _⟩, ⟨by (with_reducible repeat (first|apply rA|apply rN|apply rD)); exact HO0.out⟩, ⟨by repeat (first|(with_reducible first|exact HK.out | apply Kept.alloc | apply Kept.drewN | apply Kept.drew) | exact HK.out)⟩, ⟨hB⟩⟩
 case round =>
  clear H'
  obtain ⟨x0_1, x1_1, x5_1, rfl, rfl, HA, HK1, HO_0, HK, HB⟩ := hrel
  cases gk with
  | zero => exact absurd HA.out (by simp [laws_markAttrS.l0])
  | succ k1 =>
   have H := HA.out
   clear HA
   simp only [laws_markAttrS.l0] at H
   by_cases c3 : x5_1 < (x0_1.length : Int)
   ·rw [if_pos c3] at H
    have c3b0 : decide (x5_1 < (x0_1.length : Int)) = true := decide_eq_true c3
    clear c3
    replace H := Option.bind_eq_some_iff.mp H
    obtain ⟨t232, A40, H⟩ := H
    try dsimp only at H
    have A4 := Aside0.mk A40
    clear A40
    obtain ⟨Ao5, co5, eo5⟩ := Kd.R_slice HO_0.out
    subst eo5
    go_wp2_with (first | ((with_reducible refine gate_callee (f := 48) rfl ?_); refine goesL_ (some 15) rfl rfl Try.func48 (by kernel_rfl) rfl #[.int .i64 x1_1] rfl mA ?_; (with_reducible refine (laws_markText.calls k1 x1_1 t232 _ A4.out).mono ?_); rintro e w6 ⟨rfl, hb⟩; refine ⟨_, rfl, ?_⟩; replace HO_0 := Aside0.mk (Kd.R_below (by (with_reducible repeat (first|apply rA|apply rN|apply rD)); exact HO_0.out) hb); replace HK := Aside0.mk (Kept.below (S := (fun k_ => P0_ k_)) (by repeat (first|(with_reducible first|exact HK.out | apply Kept.alloc | apply Kept.drewN | apply Kept.drew) | exact HK.out)) hb); replace HB := Aside0.mk (below_step hB hb); (try clear hb); (try clear hb2); (try clear hk); (try clear hi); refine halt_ ?_; intro q_ hq_))
    obtain ⟨rfl⟩ := hq_
    obtain ⟨c7, H⟩ := if_som H
    have c7b0 : decide (0 ≤ x5_1) = true := decide_eq_true c7
    clear c7
    obtain ⟨y233, hy233⟩ : ∃ y_ : List (S90), y_ = (x0_1.set (x5_1 : Int).toNat (⟨t232, (rd_T90 x0_1 x5_1).f1, (rd_T90 x0_1 x5_1).f2, (rd_T90 x0_1 x5_1).f3⟩ : S90)) := ⟨_, rfl⟩
    replace H : ((laws_markText.f k1 (wrap64 (x1_1 + 1))).bind fun t234 => ((some (y233.set (x5_1 : Int).toNat (⟨(rd_T90 y233 x5_1).f0, t234, (rd_T90 y233 x5_1).f2, (rd_T90 y233 x5_1).f3⟩ : S90) : List (S90))).bind fun y235 => ((laws_markText.f k1 (wrap64 ((wrap64 (x1_1 + 1)) + 1))).bind fun t236 => ((some (y235.set (x5_1 : Int).toNat (⟨(rd_T90 y235 x5_1).f0, (rd_T90 y235 x5_1).f1, t236, (rd_T90 y235 x5_1).f3⟩ : S90) : List (S90))).bind fun y237 => ((laws_markText.f k1 (wrap64 ((wrap64 ((wrap64 (x1_1 + 1)) + 1)) + 1))).bind fun t238 => (laws_markAttrS.l0 k1 (y237.set (x5_1 : Int).toNat (⟨(rd_T90 y237 x5_1).f0, (rd_T90 y237 x5_1).f1, (rd_T90 y237 x5_1).f2, t238⟩ : S90)) (wrap64 ((wrap64 ((wrap64 ((wrap64 (x1_1 + 1)) + 1)) + 1)) + 1)) (wrap64 (x5_1 + 1)))))))) = some (r1, r2) := by first | (rw [hy233]; with_reducible exact H) | (have H2_ := (Option.bind_some _ _).symm.trans H; rw [hy233]; with_reducible exact H2_) | (have H2_ := (Option.bind_some _ _).symm.trans H; with_reducible exact H2_) | with_reducible exact H | (rw [hy233]; exact H) | exact H
    have Ny233 := Aside0.mk hy233
    clear hy233
    replace H := Option.bind_eq_some_iff.mp H
    obtain ⟨t234, A90, H⟩ := H
    try dsimp only at H
    have A9 := Aside0.mk A90
    clear A90
    obtain ⟨y235, hy235⟩ : ∃ y_ : List (S90), y_ = (y233.set (x5_1 : Int).toNat (⟨(rd_T90 y233 x5_1).f0, t234, (rd_T90 y233 x5_1).f2, (rd_T90 y233 x5_1).f3⟩ : S90)) := ⟨_, rfl⟩
    replace H : ((laws_markText.f k1 (wrap64 ((wrap64 (x1_1 + 1)) + 1))).bind fun t236 => ((some (y235.set (x5_1 : Int).toNat (⟨(rd_T90 y235 x5_1).f0, (rd_T90 y235 x5_1).f1, t236, (rd_T90 y235 x5_1).f3⟩ : S90) : List (S90))).bind fun y237 => ((laws_markText.f k1 (wrap64 ((wrap64 ((wrap64 (x1_1 + 1)) + 1)) + 1))).bind fun t238 => (laws_markAttrS.l0 k1 (y237.set (x5_1 : Int).toNat (⟨(rd_T90 y237 x5_1).f0, (rd_T90 y237 x5_1).f1, (rd_T90 y237 x5_1).f2, t238⟩ : S90)) (wrap64 ((wrap64 ((wrap64 ((wrap64 (x1_1 + 1)) + 1)) + 1)) + 1)) (wrap64 (x5_1 + 1)))))) = some (r1, r2) := by first | (rw [hy235]; with_reducible exact H) | (have H2_ := (Option.bind_some _ _).symm.trans H; rw [hy235]; with_reducible exact H2_) | (have H2_ := (Option.bind_some _ _).symm.trans H; with_reducible exact H2_) | with_reducible exact H | (rw [hy235]; exact H) | exact H
    have Ny235 := Aside0.mk hy235
    clear hy235
    replace H := Option.bind_eq_some_iff.mp H
    obtain ⟨t236, A110, H⟩ := H
    try dsimp only at H
    have A11 := Aside0.mk A110
    clear A110
    obtain ⟨y237, hy237⟩ : ∃ y_ : List (S90), y_ = (y235.set (x5_1 : Int).toNat (⟨(rd_T90 y235 x5_1).f0, (rd_T90 y235 x5_1).f1, t236, (rd_T90 y235 x5_1).f3⟩ : S90)) := ⟨_, rfl⟩
    replace H : ((laws_markText.f k1 (wrap64 ((wrap64 ((wrap64 (x1_1 + 1)) + 1)) + 1))).bind fun t238 => (laws_markAttrS.l0 k1 (y237.set (x5_1 : Int).toNat (⟨(rd_T90 y237 x5_1).f0, (rd_T90 y237 x5_1).f1, (rd_T90 y237 x5_1).f2, t238⟩ : S90)) (wrap64 ((wrap64 ((wrap64 ((wrap64 (x1_1 + 1)) + 1)) + 1)) + 1)) (wrap64 (x5_1 + 1)))) = some (r1, r2) := by first | (rw [hy237]; with_reducible exact H) | (have H2_ := (Option.bind_some _ _).symm.trans H; rw [hy237]; with_reducible exact H2_) | (have H2_ := (Option.bind_some _ _).symm.trans H; with_reducible exact H2_) | with_reducible exact H | (rw [hy237]; exact H) | exact H
    have Ny237 := Aside0.mk hy237
    clear hy237
    replace H := Option.bind_eq_some_iff.mp H
    obtain ⟨t238, A130, H⟩ := H
    try dsimp only at H
    have A13 := Aside0.mk A130
    clear A130
    obtain ⟨y239, hy239⟩ : ∃ y_ : List (S90), y_ = (y237.set (x5_1 : Int).toNat (⟨(rd_T90 y237 x5_1).f0, (rd_T90 y237 x5_1).f1, (rd_T90 y237 x5_1).f2, t238⟩ : S90)) := ⟨_, rfl⟩
    replace H : (laws_markAttrS.l0 k1 y239 (wrap64 ((wrap64 ((wrap64 ((wrap64 (x1_1 + 1)) + 1)) + 1)) + 1)) (wrap64 (x5_1 + 1))) = some (r1, r2) := by first | (rw [hy239]; with_reducible exact H) | (have H2_ := (Option.bind_some _ _).symm.trans H; rw [hy239]; with_reducible exact H2_) | (have H2_ := (Option.bind_some _ _).symm.trans H; with_reducible exact H2_) | with_reducible exact H | (rw [hy239]; exact H) | exact H
    have Ny239 := Aside0.mk hy239
    clear hy239
    have H' := Aside0.mk H
    clear H
    have p8 : 0 ≤ (x5_1 : Int) := odt
    have q8 : (x5_1 : Int) < ((x0_1.length : Int) : Int) := odt
    obtain ⟨go8, co8, eo8, gb8, gl8, cl8, HG8⟩ := Kd.R_form HO_0.out (by omega)
    (first | cases eo8 | (injection eo8 with ea_ en_ ec_; (first | subst ea_ | (injection ea_ with ea_; subst ea_)); subst ec_; clear en_))
    have GB8 := Aside0.mk gb8
    have GG8 := Aside0.mk HG8
    clear gb8 gl8 HG8
    have HMgo8 := Aside0.mk (show (P0_ go8 ∨ w.heap.size ≤ go8) from (HO_0.out.1 _ rfl))
    obtain ⟨ce8, hcl8, hM8, hcc8, hfr8⟩ := Kd.R_elem HO_0.out z90 (x5_1 : Int) p8 q8
    obtain rfl := k90_openM hM8
    have hx8_0 : w6.cell? ⟨go8, (x5_1 : Int).toNat * 4, none⟩ = some (.string ((rd_T90 x0_1 x5_1).f0)) := hcc8 0 _ rfl
    have hx8_1 : w6.cell? ⟨go8, (x5_1 : Int).toNat * 4 + 1, none⟩ = some (.string ((rd_T90 x0_1 x5_1).f1)) := hcc8 1 _ rfl
    have hx8_2 : w6.cell? ⟨go8, (x5_1 : Int).toNat * 4 + 2, none⟩ = some (.string ((rd_T90 x0_1 x5_1).f2)) := hcc8 2 _ rfl
    have hx8_3 : w6.cell? ⟨go8, (x5_1 : Int).toNat * 4 + 3, none⟩ = some (.string ((rd_T90 x0_1 x5_1).f3)) := hcc8 3 _ rfl
    have hf8_0 : w6.frozen? ⟨go8, (x5_1 : Int).toNat * 4, none⟩ = false := hfr8 0
    have hf8_1 : w6.frozen? ⟨go8, (x5_1 : Int).toNat * 4 + 1, none⟩ = false := hfr8 1
    have hf8_2 : w6.frozen? ⟨go8, (x5_1 : Int).toNat * 4 + 2, none⟩ = false := hfr8 2
    have hf8_3 : w6.frozen? ⟨go8, (x5_1 : Int).toNat * 4 + 3, none⟩ = false := hfr8 3
    clear hcl8 hcc8 hfr8 hM8
    replace p8 := eq_true p8
    replace q8 := eq_true q8
    have HX15 := Aside0.mk (show Kd.R k90 90 w6 w0.heap.size (fun k_ => (P0_ k_ ∨ w.heap.size ≤ k_)) (.slice (some ⟨go8, 0, none⟩) x0_1.length co5) x0_1 from (by (with_reducible repeat (first|apply rA|apply rN|apply rD)); exact HO_0.out))
    obtain ⟨ce15, hcl15, hM15, hcc15, hfr15⟩ := Kd.R_elem HX15.out z90 (x5_1 : Int) (odt) (by have h_ : (x5_1 : Int) < ((x0_1.length : Int) : Int) := odt; first | exact h_ | (have e_ := (Kd.R_reads' HO_0.out).1; omega) | simpa using h_)
    obtain rfl := k90_openM hM15
    have HP15 := Kd.R_seg HX15.out (x5_1 : Int) (odt) (by have h_ : (x5_1 : Int) < ((x0_1.length : Int) : Int) := odt; first | exact h_ | (have e_ := (Kd.R_reads' HO_0.out).1; omega) | simpa using h_) (seg := [.string t232]) (j := 0) hcl15 hcc15 (show 1 ≤ 4 from by decide) (x' := (⟨t232, (rd_T90 x0_1 x5_1).f1, (rd_T90 x0_1 x5_1).f2, (rd_T90 x0_1 x5_1).f3⟩ : S90)) (k90_mkM _ _ _ (⟨t232, (rd_T90 x0_1 x5_1).f1, (rd_T90 x0_1 x5_1).f2, (rd_T90 x0_1 x5_1).f3⟩ : S90) ) (fun _ hk => hk)
    have hx15_0 := hcc15 0 _ rfl
    (try simp only [show (k90).sz = 4 from rfl, Nat.mul_one, Nat.add_zero] at hx15_0)
    have hf15_0 := hfr15 0
    (try simp only [show (k90).sz = 4 from rfl, Nat.mul_one, Nat.add_zero] at hf15_0)
    clear hcl15 hcc15 hfr15 hM15
    go_wp2_with (first | ((with_reducible refine gate_store (t := 9) (p := 17) rfl ?_); refine store_event (t := 9) (p := 17) (v := ?vo_w16) (w1 := (w6.setCell ⟨go8, (x5_1 : Int).toNat * 4, none⟩ (.string t232))) ?hg ?ho ?hn ?hr ?_; (case ho => rfl); (case hg => rfl); (case hn => rfl); (case hr => first | (go_simp; done) | (go_simp; rfl)); intro w16 hw; have hg : w6.grownBy w16 (some go8) := (by rw [hw]; exact HP15.2); have hp_ : Kd.R k90 90 w16 w0.heap.size (fun k_ => (P0_ k_ ∨ w.heap.size ≤ k_)) (.slice (some ⟨go8, 0, none⟩) x0_1.length co5) y233 := (by rw [hw, Ny233.out]; exact HP15.1); clear HP15; replace HB := Aside0.mk ((by rw [hw]; exact below_set (HB.out) GB8.out : Below w0.heap.size w0 w16)); replace HK := Aside0.mk (Kept.of_grown (S := (fun k_ => P0_ k_)) hg (by repeat (first|(with_reducible first|exact HK.out | apply Kept.alloc | apply Kept.drewN | apply Kept.drew) | exact HK.out)) (fun k_ e_ => (HO_0.out.1 k_ e_))); replace HO_0 := Aside0.mk (hp_); clear hg hw hp_) | ((with_reducible refine gate_callee (f := 48) rfl ?_); refine goesL_ (some 23) rfl rfl Try.func48 (by kernel_rfl) rfl #[.int .i64 (wrap64 (x1_1 + 1))] rfl mA ?_; (with_reducible refine (laws_markText.calls k1 (wrap64 (x1_1 + 1)) t234 _ A9.out).mono ?_); rintro e w17 ⟨rfl, hb⟩; refine ⟨_, rfl, ?_⟩; replace HO_0 := Aside0.mk (Kd.R_below (by (with_reducible repeat (first|apply rA|apply rN|apply rD)); exact HO_0.out) hb); replace HK := Aside0.mk (Kept.below (S := (fun k_ => P0_ k_)) (by repeat (first|(with_reducible first|exact HK.out | apply Kept.alloc | apply Kept.drewN | apply Kept.drew) | exact HK.out)) hb); replace HB := Aside0.mk (below_step hB hb); (try clear hb); (try clear hb2); (try clear hk); (try clear hi); have p10 : 0 ≤ (x5_1 : Int) := odt; have q10 : (x5_1 : Int) < ((x0_1.length : Int) : Int) := odt; obtain ⟨ce10, hcl10, hM10, hcc10, hfr10⟩ := Kd.R_elem HO_0.out z90 (x5_1 : Int) p10 q10; obtain rfl := k90_openM hM10; have hx10_0 : w17.cell? ⟨go8, (x5_1 : Int).toNat * 4, none⟩ = some (.string ((rd_T90 y233 x5_1).f0)) := hcc10 0 _ rfl; have hx10_1 : w17.cell? ⟨go8, (x5_1 : Int).toNat * 4 + 1, none⟩ = some (.string ((rd_T90 y233 x5_1).f1)) := hcc10 1 _ rfl; have hx10_2 : w17.cell? ⟨go8, (x5_1 : Int).toNat * 4 + 2, none⟩ = some (.string ((rd_T90 y233 x5_1).f2)) := hcc10 2 _ rfl; have hx10_3 : w17.cell? ⟨go8, (x5_1 : Int).toNat * 4 + 3, none⟩ = some (.string ((rd_T90 y233 x5_1).f3)) := hcc10 3 _ rfl; have hf10_0 : w17.frozen? ⟨go8, (x5_1 : Int).toNat * 4, none⟩ = false := hfr10 0; have hf10_1 : w17.frozen? ⟨go8, (x5_1 : Int).toNat * 4 + 1, none⟩ = false := hfr10 1; have hf10_2 : w17.frozen? ⟨go8, (x5_1 : Int).toNat * 4 + 2, none⟩ = false := hfr10 2; have hf10_3 : w17.frozen? ⟨go8, (x5_1 : Int).toNat * 4 + 3, none⟩ = false := hfr10 3; clear hcl10 hcc10 hfr10 hM10; replace p10 := eq_true p10; replace q10 := eq_true q10; have HX18 := Aside0.mk (show Kd.R k90 90 w17 w0.heap.size (fun k_ => (P0_ k_ ∨ w.heap.size ≤ k_)) (.slice (some ⟨go8, 0, none⟩) x0_1.length co5) y233 from (by (with_reducible repeat (first|apply rA|apply rN|apply rD)); exact HO_0.out)); obtain ⟨ce18, hcl18, hM18, hcc18, hfr18⟩ := Kd.R_elem HX18.out z90 (x5_1 : Int) (odt) (by have h_ : (x5_1 : Int) < ((x0_1.length : Int) : Int) := odt; first | exact h_ | (have e_ := (Kd.R_reads' HO_0.out).1; omega) | simpa using h_); obtain rfl := k90_openM hM18; have HP18 := Kd.R_seg HX18.out (x5_1 : Int) (odt) (by have h_ : (x5_1 : Int) < ((x0_1.length : Int) : Int) := odt; first | exact h_ | (have e_ := (Kd.R_reads' HO_0.out).1; omega) | simpa using h_) (seg := [.string t234]) (j := 1) hcl18 hcc18 (show 2 ≤ 4 from by decide) (x' := (⟨(rd_T90 y233 x5_1).f0, t234, (rd_T90 y233 x5_1).f2, (rd_T90 y233 x5_1).f3⟩ : S90)) (k90_mkM _ _ _ (⟨(rd_T90 y233 x5_1).f0, t234, (rd_T90 y233 x5_1).f2, (rd_T90 y233 x5_1).f3⟩ : S90) ) (fun _ hk => hk); have hx18_1 := hcc18 1 _ rfl; (try simp only [show (k90).sz = 4 from rfl, Nat.mul_one, Nat.add_zero] at hx18_1); have hf18_1 := hfr18 1; (try simp only [show (k90).sz = 4 from rfl, Nat.mul_one, Nat.add_zero] at hf18_1); clear hcl18 hcc18 hfr18 hM18) | ((with_reducible refine gate_store (t := 9) (p := 25) rfl ?_); refine store_event (t := 9) (p := 25) (v := ?vo_w19) (w1 := (w17.setCell ⟨go8, (x5_1 : Int).toNat * 4 + 1, none⟩ (.string t234))) ?hg ?ho ?hn ?hr ?_; (case ho => rfl); (case hg => rfl); (case hn => rfl); (case hr => first | (go_simp; done) | (go_simp; rfl)); intro w19 hw; have hg : w17.grownBy w19 (some go8) := (by rw [hw]; exact HP18.2); have hp_ : Kd.R k90 90 w19 w0.heap.size (fun k_ => (P0_ k_ ∨ w.heap.size ≤ k_)) (.slice (some ⟨go8, 0, none⟩) x0_1.length co5) y235 := (by rw [hw, Ny235.out]; exact HP18.1); clear HP18; replace HB := Aside0.mk ((by rw [hw]; exact below_set (HB.out) GB8.out : Below w0.heap.size w0 w19)); replace HK := Aside0.mk (Kept.of_grown (S := (fun k_ => P0_ k_)) hg (by repeat (first|(with_reducible first|exact HK.out | apply Kept.alloc | apply Kept.drewN | apply Kept.drew) | exact HK.out)) (fun k_ e_ => (HO_0.out.1 k_ e_))); replace HO_0 := Aside0.mk (hp_); clear hg hw hp_) | ((with_reducible refine gate_callee (f := 48) rfl ?_); refine goesL_ (some 31) rfl rfl Try.func48 (by kernel_rfl) rfl #[.int .i64 (wrap64 ((wrap64 (x1_1 + 1)) + 1))] rfl mA ?_; (with_reducible refine (laws_markText.calls k1 (wrap64 ((wrap64 (x1_1 + 1)) + 1)) t236 _ A11.out).mono ?_); rintro e w20 ⟨rfl, hb⟩; refine ⟨_, rfl, ?_⟩; replace HO_0 := Aside0.mk (Kd.R_below (by (with_reducible repeat (first|apply rA|apply rN|apply rD)); exact HO_0.out) hb); replace HK := Aside0.mk (Kept.below (S := (fun k_ => P0_ k_)) (by repeat (first|(with_reducible first|exact HK.out | apply Kept.alloc | apply Kept.drewN | apply Kept.drew) | exact HK.out)) hb); replace HB := Aside0.mk (below_step hB hb); (try clear hb); (try clear hb2); (try clear hk); (try clear hi); have p12 : 0 ≤ (x5_1 : Int) := odt; have q12 : (x5_1 : Int) < ((x0_1.length : Int) : Int) := odt; obtain ⟨ce12, hcl12, hM12, hcc12, hfr12⟩ := Kd.R_elem HO_0.out z90 (x5_1 : Int) p12 q12; obtain rfl := k90_openM hM12; have hx12_0 : w20.cell? ⟨go8, (x5_1 : Int).toNat * 4, none⟩ = some (.string ((rd_T90 y235 x5_1).f0)) := hcc12 0 _ rfl; have hx12_1 : w20.cell? ⟨go8, (x5_1 : Int).toNat * 4 + 1, none⟩ = some (.string ((rd_T90 y235 x5_1).f1)) := hcc12 1 _ rfl; have hx12_2 : w20.cell? ⟨go8, (x5_1 : Int).toNat * 4 + 2, none⟩ = some (.string ((rd_T90 y235 x5_1).f2)) := hcc12 2 _ rfl; have hx12_3 : w20.cell? ⟨go8, (x5_1 : Int).toNat * 4 + 3, none⟩ = some (.string ((rd_T90 y235 x5_1).f3)) := hcc12 3 _ rfl; have hf12_0 : w20.frozen? ⟨go8, (x5_1 : Int).toNat * 4, none⟩ = false := hfr12 0; have hf12_1 : w20.frozen? ⟨go8, (x5_1 : Int).toNat * 4 + 1, none⟩ = false := hfr12 1; have hf12_2 : w20.frozen? ⟨go8, (x5_1 : Int).toNat * 4 + 2, none⟩ = false := hfr12 2; have hf12_3 : w20.frozen? ⟨go8, (x5_1 : Int).toNat * 4 + 3, none⟩ = false := hfr12 3; clear hcl12 hcc12 hfr12 hM12; replace p12 := eq_true p12; replace q12 := eq_true q12; have HX21 := Aside0.mk (show Kd.R k90 90 w20 w0.heap.size (fun k_ => (P0_ k_ ∨ w.heap.size ≤ k_)) (.slice (some ⟨go8, 0, none⟩) x0_1.length co5) y235 from (by (with_reducible repeat (first|apply rA|apply rN|apply rD)); exact HO_0.out)); obtain ⟨ce21, hcl21, hM21, hcc21, hfr21⟩ := Kd.R_elem HX21.out z90 (x5_1 : Int) (odt) (by have h_ : (x5_1 : Int) < ((x0_1.length : Int) : Int) := odt; first | exact h_ | (have e_ := (Kd.R_reads' HO_0.out).1; omega) | simpa using h_); obtain rfl := k90_openM hM21; have HP21 := Kd.R_seg HX21.out (x5_1 : Int) (odt) (by have h_ : (x5_1 : Int) < ((x0_1.length : Int) : Int) := odt; first | exact h_ | (have e_ := (Kd.R_reads' HO_0.out).1; omega) | simpa using h_) (seg := [.string t236]) (j := 2) hcl21 hcc21 (show 3 ≤ 4 from by decide) (x' := (⟨(rd_T90 y235 x5_1).f0, (rd_T90 y235 x5_1).f1, t236, (rd_T90 y235 x5_1).f3⟩ : S90)) (k90_mkM _ _ _ (⟨(rd_T90 y235 x5_1).f0, (rd_T90 y235 x5_1).f1, t236, (rd_T90 y235 x5_1).f3⟩ : S90) ) (fun _ hk => hk); have hx21_2 := hcc21 2 _ rfl; (try simp only [show (k90).sz = 4 from rfl, Nat.mul_one, Nat.add_zero] at hx21_2); have hf21_2 := hfr21 2; (try simp only [show (k90).sz = 4 from rfl, Nat.mul_one, Nat.add_zero] at hf21_2); clear hcl21 hcc21 hfr21 hM21) | ((with_reducible refine gate_store (t := 9) (p := 33) rfl ?_); refine store_event (t := 9) (p := 33) (v := ?vo_w22) (w1 := (w20.setCell ⟨go8, (x5_1 : Int).toNat * 4 + 2, none⟩ (.string t236))) ?hg ?ho ?hn ?hr ?_; (case ho => rfl); (case hg => rfl); (case hn => rfl); (case hr => first | (go_simp; done) | (go_simp; rfl)); intro w22 hw; have hg : w20.grownBy w22 (some go8) := (by rw [hw]; exact HP21.2); have hp_ : Kd.R k90 90 w22 w0.heap.size (fun k_ => (P0_ k_ ∨ w.heap.size ≤ k_)) (.slice (some ⟨go8, 0, none⟩) x0_1.length co5) y237 := (by rw [hw, Ny237.out]; exact HP21.1); clear HP21; replace HB := Aside0.mk ((by rw [hw]; exact below_set (HB.out) GB8.out : Below w0.heap.size w0 w22)); replace HK := Aside0.mk (Kept.of_grown (S := (fun k_ => P0_ k_)) hg (by repeat (first|(with_reducible first|exact HK.out | apply Kept.alloc | apply Kept.drewN | apply Kept.drew) | exact HK.out)) (fun k_ e_ => (HO_0.out.1 k_ e_))); replace HO_0 := Aside0.mk (hp_); clear hg hw hp_) | ((with_reducible refine gate_callee (f := 48) rfl ?_); refine goesL_ (some 39) rfl rfl Try.func48 (by kernel_rfl) rfl #[.int .i64 (wrap64 ((wrap64 ((wrap64 (x1_1 + 1)) + 1)) + 1))] rfl mA ?_; (with_reducible refine (laws_markText.calls k1 (wrap64 ((wrap64 ((wrap64 (x1_1 + 1)) + 1)) + 1)) t238 _ A13.out).mono ?_); rintro e w23 ⟨rfl, hb⟩; refine ⟨_, rfl, ?_⟩; replace HO_0 := Aside0.mk (Kd.R_below (by (with_reducible repeat (first|apply rA|apply rN|apply rD)); exact HO_0.out) hb); replace HK := Aside0.mk (Kept.below (S := (fun k_ => P0_ k_)) (by repeat (first|(with_reducible first|exact HK.out | apply Kept.alloc | apply Kept.drewN | apply Kept.drew) | exact HK.out)) hb); replace HB := Aside0.mk (below_step hB hb); (try clear hb); (try clear hb2); (try clear hk); (try clear hi); have p14 : 0 ≤ (x5_1 : Int) := odt; have q14 : (x5_1 : Int) < ((x0_1.length : Int) : Int) := odt; obtain ⟨ce14, hcl14, hM14, hcc14, hfr14⟩ := Kd.R_elem HO_0.out z90 (x5_1 : Int) p14 q14; obtain rfl := k90_openM hM14; have hx14_0 : w23.cell? ⟨go8, (x5_1 : Int).toNat * 4, none⟩ = some (.string ((rd_T90 y237 x5_1).f0)) := hcc14 0 _ rfl; have hx14_1 : w23.cell? ⟨go8, (x5_1 : Int).toNat * 4 + 1, none⟩ = some (.string ((rd_T90 y237 x5_1).f1)) := hcc14 1 _ rfl; have hx14_2 : w23.cell? ⟨go8, (x5_1 : Int).toNat * 4 + 2, none⟩ = some (.string ((rd_T90 y237 x5_1).f2)) := hcc14 2 _ rfl; have hx14_3 : w23.cell? ⟨go8, (x5_1 : Int).toNat * 4 + 3, none⟩ = some (.string ((rd_T90 y237 x5_1).f3)) := hcc14 3 _ rfl; have hf14_0 : w23.frozen? ⟨go8, (x5_1 : Int).toNat * 4, none⟩ = false := hfr14 0; have hf14_1 : w23.frozen? ⟨go8, (x5_1 : Int).toNat * 4 + 1, none⟩ = false := hfr14 1; have hf14_2 : w23.frozen? ⟨go8, (x5_1 : Int).toNat * 4 + 2, none⟩ = false := hfr14 2; have hf14_3 : w23.frozen? ⟨go8, (x5_1 : Int).toNat * 4 + 3, none⟩ = false := hfr14 3; clear hcl14 hcc14 hfr14 hM14; replace p14 := eq_true p14; replace q14 := eq_true q14; have HX24 := Aside0.mk (show Kd.R k90 90 w23 w0.heap.size (fun k_ => (P0_ k_ ∨ w.heap.size ≤ k_)) (.slice (some ⟨go8, 0, none⟩) x0_1.length co5) y237 from (by (with_reducible repeat (first|apply rA|apply rN|apply rD)); exact HO_0.out)); obtain ⟨ce24, hcl24, hM24, hcc24, hfr24⟩ := Kd.R_elem HX24.out z90 (x5_1 : Int) (odt) (by have h_ : (x5_1 : Int) < ((x0_1.length : Int) : Int) := odt; first | exact h_ | (have e_ := (Kd.R_reads' HO_0.out).1; omega) | simpa using h_); obtain rfl := k90_openM hM24; have HP24 := Kd.R_seg HX24.out (x5_1 : Int) (odt) (by have h_ : (x5_1 : Int) < ((x0_1.length : Int) : Int) := odt; first | exact h_ | (have e_ := (Kd.R_reads' HO_0.out).1; omega) | simpa using h_) (seg := [.string t238]) (j := 3) hcl24 hcc24 (show 4 ≤ 4 from by decide) (x' := (⟨(rd_T90 y237 x5_1).f0, (rd_T90 y237 x5_1).f1, (rd_T90 y237 x5_1).f2, t238⟩ : S90)) (k90_mkM _ _ _ (⟨(rd_T90 y237 x5_1).f0, (rd_T90 y237 x5_1).f1, (rd_T90 y237 x5_1).f2, t238⟩ : S90) ) (fun _ hk => hk); have hx24_3 := hcc24 3 _ rfl; (try simp only [show (k90).sz = 4 from rfl, Nat.mul_one, Nat.add_zero] at hx24_3); have hf24_3 := hfr24 3; (try simp only [show (k90).sz = 4 from rfl, Nat.mul_one, Nat.add_zero] at hf24_3); clear hcl24 hcc24 hfr24 hM24) | ((with_reducible refine gate_store (t := 9) (p := 41) rfl ?_); refine store_event (t := 9) (p := 41) (v := ?vo_w25) (w1 := (w23.setCell ⟨go8, (x5_1 : Int).toNat * 4 + 3, none⟩ (.string t238))) ?hg ?ho ?hn ?hr ?_; (case ho => rfl); (case hg => rfl); (case hn => rfl); (case hr => first | (go_simp; done) | (go_simp; rfl)); intro w25 hw; have hg : w23.grownBy w25 (some go8) := (by rw [hw]; exact HP24.2); have hp_ : Kd.R k90 90 w25 w0.heap.size (fun k_ => (P0_ k_ ∨ w.heap.size ≤ k_)) (.slice (some ⟨go8, 0, none⟩) x0_1.length co5) y239 := (by rw [hw, Ny239.out]; exact HP24.1); clear HP24; replace HB := Aside0.mk ((by rw [hw]; exact below_set (HB.out) GB8.out : Below w0.heap.size w0 w25)); replace HK := Aside0.mk (Kept.of_grown (S := (fun k_ => P0_ k_)) hg (by repeat (first|(with_reducible first|exact HK.out | apply Kept.alloc | apply Kept.drewN | apply Kept.drew) | exact HK.out)) (fun k_ e_ => (HO_0.out.1 k_ e_))); replace HO_0 := Aside0.mk (hp_); clear hg hw hp_))
    go_roundg k1
    case measure => have := HK1.out; omega
    case rel => exact ⟨(y239), (wrap64 ((wrap64 ((wrap64 ((wrap64 (x1_1 + 1)) + 1)) + 1)) + 1)), (wrap64 (x5_1 + 1)), rG, rG, H', ⟨by have := HK1.out; omega⟩, ⟨by (with_reducible repeat (first|apply rA|apply rN|apply rD)); exact HO_0.out⟩, ⟨by repeat (first|(with_reducible first|exact HK.out | apply Kept.alloc | apply Kept.drewN | apply Kept.drew) | exact HK.out)⟩, ⟨hB⟩⟩
   ·rw [if_neg c3] at H
    have c3b0 : decide (x5_1 < (x0_1.length : Int)) = false := decide_eq_false c3
    clear c3
    simp only [Option.some.injEq, Prod.mk.injEq] at H
    obtain ⟨rfl, rfl⟩ := H
    obtain ⟨Ao26, co26, eo26⟩ := Kd.R_slice HO_0.out
    subst eo26
    go_wp2
    go_ret
    exact ⟨rE, by (with_reducible repeat (first|apply rA|apply rN|apply rD)); exact HO_0.out, hB, by repeat (first|(with_reducible first|exact HK.out | apply Kept.alloc | apply Kept.drewN | apply Kept.drew) | exact HK.out)⟩

end Go.Proofs.Ytdbinpeglamnnaa.PP
