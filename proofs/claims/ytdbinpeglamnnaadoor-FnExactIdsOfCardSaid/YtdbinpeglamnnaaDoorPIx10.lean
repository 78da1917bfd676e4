-- Written by the session's program hprint.py, over the kit's print program. Lean checks it.
import Derived.Test.YtdbinpeglamnnaaDoorPIx0
import Derived.Test.YtdbinpeglamnnaaDoorPIx5
import Derived.Test.YtdbinpeglamnnaaDoorPIx9
namespace Go.Proofs.YtdbinpeglamnnaaDoor.PI
open Go.RowKit Go.Proofs.YtdbinpeglamnnaaDoorW.PrintWords Go.Proofs.YtdbinpeglamnnaaDoorW.PrintLast Go.Proofs.YtdbinpeglamnnaaDoorW.PrintMore
attribute [local go_sem] max2_int min2_int max_two min_two max_three min_three max_four min_four   -- for this text's walks alone
set_option linter.unusedVariables false
set_option linter.unusedSimpArgs false
set_option maxHeartbeats 8000000
set_option maxRecDepth 100000

/-! ### deep: trees of the call's own, no two rows of which are one -/
theorem F38_mk (d : Kd S38) (w : World) (x : S38) {A4 : Option Addr} {c4 : Nat} (l4 : x.f4.length ≤ c4) (g4 : k89.C w A4 x.f4.length x.f4) {A5 : Option Addr} {c5 : Nat} (l5 : x.f5.length ≤ c5) (g5 : k64.C w A5 x.f5.length x.f5) {A6 : Option Addr} {c6 : Nat} (l6 : x.f6.length ≤ c6) (g6 : d.C w A6 x.f6.length x.f6) :
    (F38 d).K w x [.int .i64 x.f0, .string x.f1, .string x.f2, .string x.f3, .slice A4 x.f4.length c4, .slice A5 x.f5.length c5, .slice A6 x.f6.length c6, .string x.f7] :=
  ⟨[.int .i64 x.f0], [.string x.f1, .string x.f2, .string x.f3, .slice A4 x.f4.length c4, .slice A5 x.f5.length c5, .slice A6 x.f6.length c6, .string x.f7], rfl, rfl, ⟨[.string x.f1], [.string x.f2, .string x.f3, .slice A4 x.f4.length c4, .slice A5 x.f5.length c5, .slice A6 x.f6.length c6, .string x.f7], rfl, rfl, ⟨[.string x.f2], [.string x.f3, .slice A4 x.f4.length c4, .slice A5 x.f5.length c5, .slice A6 x.f6.length c6, .string x.f7], rfl, rfl, ⟨[.string x.f3], [.slice A4 x.f4.length c4, .slice A5 x.f5.length c5, .slice A6 x.f6.length c6, .string x.f7], rfl, rfl, ⟨[.slice A4 x.f4.length c4], [.slice A5 x.f5.length c5, .slice A6 x.f6.length c6, .string x.f7], rfl, ⟨A4, c4, rfl, l4, g4⟩, ⟨[.slice A5 x.f5.length c5], [.slice A6 x.f6.length c6, .string x.f7], rfl, ⟨A5, c5, rfl, l5, g5⟩, ⟨[.slice A6 x.f6.length c6], [.string x.f7], rfl, ⟨A6, c6, rfl, l6, g6⟩, rfl⟩⟩⟩⟩⟩⟩⟩
/-- A node whose rows are told apart: the blocks of what hangs below are in ok. -/
@[reducible] def DN (d : Kd S38) (w : World) (base : Nat) (ok : Nat → Prop) (x : S38) (v4 v5 v6 : Value) (o6 : Nat → Prop) : Prop :=
  k89.R 89 w base (fun k => some k = v4.ownBlock) v4 x.f4 ∧ k64.R 64 w base (fun k => some k = v5.ownBlock) v5 x.f5 ∧ Kd.S d 38 w base o6 v6 x.f6 ∧ (∀ k, some k = v4.ownBlock → ok k) ∧ (∀ k, some k = v5.ownBlock → ok k) ∧ (∀ k, o6 k → ok k ∧ some k ≠ v4.ownBlock ∧ some k ≠ v5.ownBlock)
def cN (x : S38) (v4 v5 v6 : Value) : List Value := [.int .i64 x.f0, .string x.f1, .string x.f2, .string x.f3, v4, v5, v6, .string x.f7]
def D38 (d : Kd S38) : Kd S38 where
  sz := 8
  E := 89 :: 64 :: 38 :: d.E
  K := (F38 d).K
  M := fun w base ok x cs => ∃ v4 v5 v6 o6, cs = cN x v4 v5 v6 ∧ DN d w base ok x v4 v5 v6 o6
  K_len := fun h => (F38 d).K_len h
  K_one := fun h => (F38 d).K_one h
  K_below := fun hb h => (F38 d).K_below hb h
  K_of_M := by
    rintro w base ok x cs ⟨v4, v5, v6, o6, rfl, h4, h5, h6, -⟩
    obtain ⟨A4, c4, rfl, l4, g4⟩ := Kd.R_reads h4
    obtain ⟨A5, c5, rfl, l5, g5⟩ := Kd.R_reads h5
    obtain ⟨A6, c6, rfl, l6, g6⟩ := Kd.S_reads h6
    exact F38_mk d w x l4 g4 l5 g5 l6 g6
  M_mono := by
    rintro w base ok ok' x cs hok ⟨v4, v5, v6, o6, rfl, h4, h5, h6, a4, a5, a6⟩
    exact ⟨v4, v5, v6, o6, rfl, h4, h5, h6, fun k hk => hok k (a4 k hk), fun k hk => hok k (a5 k hk), fun k hk => ⟨hok k (a6 k hk).1, (a6 k hk).2⟩⟩
  M_bound := by
    rintro w base ok x cs ⟨v4, v5, v6, o6, rfl, h4, h5, h6, a4, a5, a6⟩
    refine ⟨v4, v5, v6, _, rfl, h4, h5, Kd.S_bound h6, fun k hk => ?_, fun k hk => ?_, fun k hk => ?_⟩
    · obtain ⟨cells, hc⟩ := Kd.R_typed h4 k hk.symm
      exact ⟨a4 k hk, Kd.R_base h4 k hk.symm, Kd.R_lt h4 k hk.symm, 89, by simp, cells, hc⟩
    · obtain ⟨cells, hc⟩ := Kd.R_typed h5 k hk.symm
      exact ⟨a5 k hk, Kd.R_base h5 k hk.symm, Kd.R_lt h5 k hk.symm, 64, by simp, cells, hc⟩
    · obtain ⟨h1, h2, h3, q, hq, hc⟩ := hk
      exact ⟨⟨(a6 k h1).1, h2, h3, q, List.mem_cons_of_mem _ (List.mem_cons_of_mem _ hq), hc⟩, (a6 k h1).2⟩
  M_move := by
    rintro w w1 base ok x cs hm ⟨v4, v5, v6, o6, rfl, h4, h5, h6, a4, a5, a6⟩
    exact ⟨v4, v5, v6, o6, rfl, Kd.R_move h4 (fun k hk => hm k (a4 k hk)), Kd.R_move h5 (fun k hk => hm k (a5 k hk)), Kd.S_move h6 (fun k hk => hm k (a6 k hk).1), a4, a5, a6⟩
  M_lower := by
    rintro w base base' ok x cs hb ⟨v4, v5, v6, o6, rfl, h4, h5, h6, a4, a5, a6⟩
    exact ⟨v4, v5, v6, o6, rfl, Kd.R_lower h4 hb, Kd.R_lower h5 hb, Kd.S_lower h6 hb, a4, a5, a6⟩
theorem S_imp_ {α : Type} {d d' : Kd α} (hs : d.sz = d'.sz) (hM : ∀ w base ok x cs, d.M w base ok x cs → d'.M w base ok x cs) {e : Nat} {w : World} {base : Nat} {ok : Nat → Prop} {v : Value} {xs : List α} (h : Kd.S d e w base ok v xs) : Kd.S d' e w base ok v xs := by
  obtain ⟨f, h⟩ := h
  exact ⟨f, Kd.R_imp (d := Kd.tag f d) (d' := Kd.tag f d') hs (fun w base ok x cs hp => hM w base _ _ cs hp) h⟩
theorem monoD : Kd.Mono D38 := ⟨fun _ _ _ => rfl, fun d d' hs h w x cs hk => mono38.K d d' hs h w x cs hk, fun d d' hs h w base ok x cs ⟨v4, v5, v6, o6, e, h4, h5, h6, a⟩ => ⟨v4, v5, v6, o6, e, h4, h5, S_imp_ hs h h6, a⟩⟩
theorem subD : Kd.Sub D38 [38, 64, 89] := fun d h q hq => by
  rcases List.mem_cons.1 hq with rfl | hq
  · simp
  rcases List.mem_cons.1 hq with rfl | hq
  · simp
  rcases List.mem_cons.1 hq with rfl | hq
  · simp
  · exact h q hq
theorem szD : ∀ n, (Kd.upto D38 8 [38, 64, 89] n).sz = 8 := Kd.upto_sz (fun _ => rfl)
def kD : Kd S38 := Kd.fix D38 8 [38, 64, 89] szD (Kd.upto_E subD)
theorem kD_S {n : Nat} {w : World} {base : Nat} {ok : Nat → Prop} {v : Value} {xs : List S38} (h : Kd.S (Kd.upto D38 8 [38, 64, 89] n) 38 w base ok v xs) : Kd.S kD 38 w base ok v xs :=
  S_imp_ (d := Kd.upto D38 8 [38, 64, 89] n) (d' := kD) (szD n) (fun w base ok x cs h => (⟨n, h⟩ : ∃ n, (Kd.upto D38 8 [38, 64, 89] n).M w base ok x cs)) h
theorem kD_back {w : World} {base : Nat} {ok : Nat → Prop} {v : Value} {xs : List S38} (h : Kd.S kD 38 w base ok v xs) : ∃ n, Kd.S (Kd.upto D38 8 [38, 64, 89] n) 38 w base ok v xs := by
  obtain ⟨f, h0, inner, ho, hr⟩ := h
  obtain ⟨N, hN⟩ := Kd.reps_bounded (R := fun n (p : S38 × Nat) c => (Kd.upto D38 8 [38, 64, 89] n).M w base (fun k => (ok k ∧ some k ≠ v.ownBlock) ∧ f k = p.2) p.1 c) (fun n m p c hnm hp => Kd.upto_M_le monoD szD hnm hp) hr
  refine ⟨N, f, h0, inner, ?_, ?_⟩
  · show World.ownsRow w base 38 (Kd.upto D38 8 [38, 64, 89] N).sz v _ inner
    rw [szD N]; exact ho
  · show Reps _ (Kd.upto D38 8 [38, 64, 89] N).sz _ inner
    rw [szD N]; exact hN
theorem kD_open {w : World} {base : Nat} {ok : Nat → Prop} {x : S38} {cs : List Value} (h : kD.M w base ok x cs) : ∃ v4 v5 v6 o6, cs = cN x v4 v5 v6 ∧ DN kD w base ok x v4 v5 v6 o6 := by
  obtain ⟨n, h⟩ := h
  cases n with
  | zero => exact h.elim
  | succ n =>
    obtain ⟨v4, v5, v6, o6, rfl, h4, h5, h6, a⟩ := h
    exact ⟨v4, v5, v6, o6, rfl, h4, h5, kD_S h6, a⟩
theorem kD_mk {w : World} {base : Nat} {ok : Nat → Prop} {x : S38} {v4 v5 v6 : Value} {o6 : Nat → Prop} (h : DN kD w base ok x v4 v5 v6 o6) : kD.M w base ok x (cN x v4 v5 v6) := by
  obtain ⟨h4, h5, h6, a⟩ := h
  obtain ⟨n, h6⟩ := kD_back h6
  exact ⟨n + 1, v4, v5, v6, o6, rfl, h4, h5, h6, a⟩
theorem upto_KD {E : List Nat} : ∀ n {w : World} {x : S38} {cs : List Value}, (Kd.upto D38 8 [38, 64, 89] n).K w x cs → (Kd.upto F38 8 E n).K w x cs
  | 0, _, _, _, h => h.elim
  | n + 1, _, _, _, h => mono38.K _ _ (by rw [szD n, Kd.upto_sz (F := F38) (fun _ => rfl) n]) (fun _ _ _ hk => upto_KD n hk) _ _ _ h
theorem upto_MD : ∀ n {w : World} {base : Nat} {ok : Nat → Prop} {x : S38} {cs : List Value}, (Kd.upto D38 8 [38, 64, 89] n).M w base ok x cs → k38.M w base ok x cs
  | 0, _, _, _, _, _, h => h.elim
  | n + 1, w, base, ok, x, _, ⟨v4, v5, v6, o6, e, h4, h5, h6, a4, a5, a6⟩ => by
    subst e
    exact k38_mkM _ _ _ x (Kd.R_mono h4 (fun k hk => a4 k hk)) (Kd.R_mono h5 (fun k hk => a5 k hk)) (Kd.R_mono (Kd.R_imp (d := Kd.upto D38 8 [38, 64, 89] n) (d' := k38) (szD n) (fun w base ok x cs hp => upto_MD n hp) (Kd.S_R h6)) (fun k hk => (a6 k hk).1))
theorem kD_K {w : World} {x : S38} {cs : List Value} (h : kD.K w x cs) : k38.K w x cs := by
  obtain ⟨n, h⟩ := h
  exact ⟨n, upto_KD n h⟩
theorem kD_C {w : World} {A : Option Addr} {n : Nat} {xs : List S38} (h : kD.C w A n xs) : k38.C w A n xs := Kd.C_imp (d := kD) (d' := k38) rfl (fun _ _ _ hp => kD_K hp) h
theorem kD_R {w : World} {base : Nat} {ok : Nat → Prop} {v : Value} {xs : List S38} (h : Kd.S kD 38 w base ok v xs) : ∃ A c, v = .slice A xs.length c ∧ xs.length ≤ c ∧ k38.C w A xs.length xs := by
  obtain ⟨A, c, e, l, g⟩ := Kd.S_reads h
  exact ⟨A, c, e, l, kD_C g⟩
theorem kD_toR {w : World} {base : Nat} {ok : Nat → Prop} {v : Value} {xs : List S38} (h : Kd.S kD 38 w base ok v xs) : k38.R 38 w base ok v xs :=
  Kd.R_imp (d := kD) (d' := k38) rfl (fun _ _ _ _ _ ⟨n, hp⟩ => upto_MD n hp) (Kd.S_R h)
/-! #### an element of such a row, lent -/
section
variable {W W1 : World} {base g n cap : Nat} {ok oki P : Nat → Prop} {ys zs : List S38} {x : S38} {v4 v5 v6 : Value} {o6 : Nat → Prop}
theorem setA (ys zs : List S38) (x x' : S38) : (ys ++ x :: zs).set ((ys.length : Int)).toNat x' = ys ++ x' :: zs := by simp
theorem kD_elem (h : Kd.S kD 38 W base ok (.slice (some ⟨g, 0, none⟩) n cap) (ys ++ x :: zs)) :
    ∃ oki v4 v5 v6 o6, (∀ j u, (cN x v4 v5 v6)[j]? = some u → W.cell? ⟨g, ys.length * 8 + j, none⟩ = some u) ∧ (∀ j, W.frozen? ⟨g, ys.length * 8 + j, none⟩ = false) ∧ DN kD W base oki x v4 v5 v6 o6 ∧ (∀ k, oki k → ok k ∧ k ≠ g) ∧ Kd.H kD 38 W base ok (.slice (some ⟨g, 0, none⟩) n cap) (ys ++ x :: zs) (ys.length : Int) oki (cN x v4 v5 v6) := by
  have hn := (Kd.S_reads' h).1
  rw [List.length_append, List.length_cons] at hn
  obtain ⟨oki, c, _, hM, hc, hf, hk, hH⟩ := Kd.S_elem h z38 (ys.length : Int) (by omega) (by omega)
  rw [Int.toNat_natCast, show (ys ++ x :: zs).getD ys.length z38 = x by simp [List.getD]] at hM
  obtain ⟨v4, v5, v6, o6, rfl, hD⟩ := kD_open hM
  exact ⟨oki, v4, v5, v6, o6, hc, hf, hD, hk, hH⟩
theorem kD_in4 (hH : Kd.H kD 38 W base ok (.slice (some ⟨g, 0, none⟩) n cap) (ys ++ x :: zs) (ys.length : Int) oki (cN x v4 v5 v6)) (hD : DN kD W base oki x v4 v5 v6 o6) (hk : Kept W W1 (fun k => some k = v4.ownBlock)) {d : List S89} (hR : k89.R 89 W1 base P v4 d) :
    Kd.S kD 38 W1 base ok (.slice (some ⟨g, 0, none⟩) n cap) (ys ++ ⟨x.f0, x.f1, x.f2, x.f3, d, x.f5, x.f6, x.f7⟩ :: zs) := by
  obtain ⟨h4, h5, h6, a4, a5, a6⟩ := hD
  rw [← setA ys zs x]
  refine Kd.H_back (okp := oki) (Kd.H_kept hH hk (fun k _ hn he => hn (a4 k he))) (kD_mk (x := ⟨x.f0, x.f1, x.f2, x.f3, d, x.f5, x.f6, x.f7⟩) ⟨Kd.R_tight rfl hR, Kd.R_kept h5 hk (fun k h1 h2 => ?_), Kd.S_kept h6 hk (fun k h1 => (a6 k h1).2.1), a4, a5, a6⟩) (fun _ hk => hk)
  obtain ⟨c1, e1⟩ := Kd.R_typed h4 k h2.symm
  obtain ⟨c2, e2⟩ := Kd.R_typed h5 k h1.symm
  rw [e1] at e2
  cases e2
theorem kD_in5 (hH : Kd.H kD 38 W base ok (.slice (some ⟨g, 0, none⟩) n cap) (ys ++ x :: zs) (ys.length : Int) oki (cN x v4 v5 v6)) (hD : DN kD W base oki x v4 v5 v6 o6) (hk : Kept W W1 (fun k => some k = v5.ownBlock)) {d : List S64} (hR : k64.R 64 W1 base P v5 d) :
    Kd.S kD 38 W1 base ok (.slice (some ⟨g, 0, none⟩) n cap) (ys ++ ⟨x.f0, x.f1, x.f2, x.f3, x.f4, d, x.f6, x.f7⟩ :: zs) := by
  obtain ⟨h4, h5, h6, a4, a5, a6⟩ := hD
  rw [← setA ys zs x]
  refine Kd.H_back (okp := oki) (Kd.H_kept hH hk (fun k _ hn he => hn (a5 k he))) (kD_mk (x := ⟨x.f0, x.f1, x.f2, x.f3, x.f4, d, x.f6, x.f7⟩) ⟨Kd.R_kept h4 hk (fun k h1 h2 => ?_), Kd.R_tight rfl hR, Kd.S_kept h6 hk (fun k h1 => (a6 k h1).2.2), a4, a5, a6⟩) (fun _ hk => hk)
  obtain ⟨c1, e1⟩ := Kd.R_typed h4 k h1.symm
  obtain ⟨c2, e2⟩ := Kd.R_typed h5 k h2.symm
  rw [e1] at e2
  cases e2
theorem kD_in6 (hH : Kd.H kD 38 W base ok (.slice (some ⟨g, 0, none⟩) n cap) (ys ++ x :: zs) (ys.length : Int) oki (cN x v4 v5 v6)) (hD : DN kD W base oki x v4 v5 v6 o6) (hk : Kept W W1 o6) {d : List S38} (hR : Kd.S kD 38 W1 base o6 v6 d) :
    Kd.S kD 38 W1 base ok (.slice (some ⟨g, 0, none⟩) n cap) (ys ++ ⟨x.f0, x.f1, x.f2, x.f3, x.f4, x.f5, d, x.f7⟩ :: zs) := by
  obtain ⟨h4, h5, h6, a4, a5, a6⟩ := hD
  rw [← setA ys zs x]
  exact Kd.H_back (okp := oki) (Kd.H_kept hH hk (fun k _ hn he => hn (a6 k he).1)) (kD_mk (x := ⟨x.f0, x.f1, x.f2, x.f3, x.f4, x.f5, d, x.f7⟩) ⟨Kd.R_kept h4 hk (fun k h1 h2 => (a6 k h2).2.1 h1), Kd.R_kept h5 hk (fun k h1 h2 => (a6 k h2).2.2 h1), hR, a4, a5, a6⟩) (fun _ hk => hk)
theorem kD_put (hH : Kd.H kD 38 W base ok (.slice (some ⟨g, 0, none⟩) n cap) (ys ++ x :: zs) (ys.length : Int) oki (cN x v4 v5 v6)) (hD : DN kD W base oki x v4 v5 v6 o6) (hk : ∀ k, oki k → ok k ∧ k ≠ g) (hl : ys.length < n) (j : Nat) (u : Value) (hu : u.oneCell' = true) (hj : j + 1 ≤ 8)
    (x' : S38) (hx : (cN x v4 v5 v6).take j ++ [u] ++ (cN x v4 v5 v6).drop (j + 1) = cN x' v4 v5 v6) (h4 : x'.f4 = x.f4) (h5 : x'.f5 = x.f5) (h6 : x'.f6 = x.f6) :
    Kd.S kD 38 (W.setCell ⟨g, ys.length * 8 + j, none⟩ u) base ok (.slice (some ⟨g, 0, none⟩) n cap) (ys ++ x' :: zs) ∧ W.grownBy (W.setCell ⟨g, ys.length * 8 + j, none⟩ u) (some g) := by
  obtain ⟨h1, h2⟩ := Kd.H_seg hH (by omega) (by omega) (seg := [u]) (j := j) hj (fun q hq => by rw [List.mem_singleton.1 hq]; exact hu)
  rw [show ((ys.length : Int)).toNat = ys.length from Int.toNat_natCast _] at h1 h2
  have hM : kD.M W base oki x' (cN x' v4 v5 v6) := kD_mk (by unfold DN at hD ⊢; rw [h4, h5, h6]; exact hD)
  refine ⟨?_, h2⟩
  have h3 := Kd.H_back h1 (x' := x') (okp := oki) (by rw [show [u].length = 1 from rfl, hx]; exact Kd.M_step hM (fun k hk2 hlt => h2.block k hlt (fun he => (hk k hk2).2 (by injection he)))) (fun _ h => h)
  rw [setA] at h3
  exact h3
end
theorem kD_zero (W : World) (base : Nat) (ok : Nat → Prop) : kD.M W base ok z38 [.int .i64 0, .string ⟨#[]⟩, .string ⟨#[]⟩, .string ⟨#[]⟩, .slice none 0 0, .slice none 0 0, .slice none 0 0, .string ⟨#[]⟩] :=
  kD_mk (x := z38) (v4 := .slice none 0 0) (v5 := .slice none 0 0) (v6 := .slice none 0 0) (o6 := fun _ => False) ⟨Kd.R_nil _ _ _ _ _, Kd.R_nil _ _ _ _ _, Kd.S_nil _ _ _ _ _, fun k hk => by simp [Value.ownBlock] at hk, fun k hk => by simp [Value.ownBlock] at hk, fun k hk => hk.elim⟩
theorem kD_put8 {W : World} {base N g n cap : Nat} {xs : List S38} (h : Kd.S kD 38 W base (fun k => k < N) (.slice (some ⟨g, 0, none⟩) n cap) xs) (hb : base ≤ N) (i : Int) (h0 : 0 ≤ i) (h1 : i < n) (x : S38) {v4 v5 v6 : Value} (h4 : k89.R 89 W N (fun _ => True) v4 x.f4) (h5 : k64.R 64 W N (fun _ => True) v5 x.f5) (h6 : Kd.S kD 38 W N (fun k => some k ≠ v4.ownBlock ∧ some k ≠ v5.ownBlock) v6 x.f6) :
    Kd.S kD 38 (W.setCells g (i.toNat * 8 + 0) [.int .i64 x.f0, .string x.f1, .string x.f2, .string x.f3, v4, v5, v6, .string x.f7]) base (fun _ => True) (.slice (some ⟨g, 0, none⟩) n cap) (xs.set i.toNat x) ∧ W.grownBy (W.setCells g (i.toNat * 8 + 0) [.int .i64 x.f0, .string x.f1, .string x.f2, .string x.f3, v4, v5, v6, .string x.f7]) (some g) := by
  have hgN : g < N := (Kd.S_R h).1 g rfl
  obtain ⟨oki, c, hcl, _, _, _, _, hH⟩ := Kd.S_elem (Kd.S_mono h (ok' := fun k => True ∧ ¬ N ≤ k) (fun k hk => ⟨trivial, by omega⟩)) z38 i h0 h1
  have hM : kD.M W base (fun k => N ≤ k) x (cN x v4 v5 v6) := kD_mk (o6 := fun k => (some k ≠ v4.ownBlock ∧ some k ≠ v5.ownBlock) ∧ N ≤ k)
    ⟨Kd.R_lower (Kd.R_tight rfl h4) hb, Kd.R_lower (Kd.R_tight rfl h5) hb, Kd.S_lower (Kd.S_mono (Kd.S_bound h6) (fun k hk => ⟨hk.1, hk.2.1⟩)) hb, fun k hk => Kd.R_base h4 k hk.symm, fun k hk => Kd.R_base h5 k hk.symm, fun k hk => ⟨hk.2, hk.1⟩⟩
  have hc8 : c.drop 8 = [] := List.drop_eq_nil_of_le (by rw [hcl]; exact Nat.le_refl _)
  refine Kd.S_seg (okg := fun k => N ≤ k) (ok := fun _ => True) hH h0 h1 (seg := [.int .i64 x.f0, .string x.f1, .string x.f2, .string x.f3, v4, v5, v6, .string x.f7]) (j := 0) (by show 8 ≤ 8; omega) (okp := fun k => N ≤ k) (x' := x) ?_ (fun k hk => .inr hk) (fun k hk => ⟨trivial, by omega⟩)
  show kD.M W base _ x (c.take 0 ++ _ ++ c.drop 8)
  rw [hc8, List.take_zero, List.nil_append, List.append_nil]
  exact hM
/-- A tree told at W2, later: nothing below its end has been written since. -/
theorem DN_later {W2 W : World} {base N : Nat} {x : S38} {v4 v5 v6 : Value} (hb : base ≤ N) (h4 : k89.R 89 W2 N (fun _ => True) v4 x.f4) (h5 : k64.R 64 W2 N (fun _ => True) v5 x.f5) (h6 : Kd.S kD 38 W2 N (fun k => some k ≠ v4.ownBlock ∧ some k ≠ v5.ownBlock) v6 x.f6) (hB : Below W2.heap.size W2 W) :
    DN kD W base (fun k => N ≤ k ∧ k < W2.heap.size) x v4 v5 v6 (fun k => (some k ≠ v4.ownBlock ∧ some k ≠ v5.ownBlock) ∧ N ≤ k ∧ k < W2.heap.size) :=
  ⟨Kd.R_lower (Kd.R_below (Kd.R_tight rfl h4) hB) hb, Kd.R_lower (Kd.R_below (Kd.R_tight rfl h5) hB) hb, Kd.S_lower (Kd.S_below (Kd.S_mono (Kd.S_bound h6) (fun k hk => ⟨hk.1, hk.2.1, hk.2.2.1⟩)) hB) hb,
    fun k hk => ⟨Kd.R_base h4 k hk.symm, Kd.R_lt h4 k hk.symm⟩, fun k hk => ⟨Kd.R_base h5 k hk.symm, Kd.R_lt h5 k hk.symm⟩, fun k hk => ⟨hk.2, hk.1⟩⟩
theorem R_keptOwn {α : Type} {d : Kd α} {e : Nat} {W W2 : World} {base : Nat} {ok S : Nat → Prop} {v : Value} {xs : List α} (h : d.R e W base ok v xs) (hE : d.E = []) (hk : Kept W W2 S) (hne : ∀ k, some k = v.ownBlock → ¬ S k) : d.R e W2 base ok v xs :=
  Kd.R_mono (Kd.R_kept (Kd.R_tight hE h) hk hne) (fun k hk => h.1 k hk.symm)
/-! ### laws_toNode: function 7 -/
def laws_toNode.F (G_ : List (S26) → Option ((List (S38)))) (k : Nat) (a0_0 : Int) (a0_1 : ByteArray) (a0_2 : ByteArray) (a0_3 : ByteArray) (l0_4 : List (S76)) (l0_5 : List (S78)) (l0_6 : List (S26)) (a0_7 : ByteArray) : Option (Int × ByteArray × ByteArray × ByteArray × (List (S89)) × (List (S64)) × (List (S38)) × ByteArray) := (laws_toDeclS.f k l0_4).bind fun t209 => ((laws_toAttrS.f k l0_5).bind fun t212 => ((G_ l0_6).bind fun t215 => (some (a0_0, a0_1, a0_2, a0_3, t209, t212, t215, a0_7))))
theorem laws_toNode.monoF {G_ G2_ : List (S26) → Option ((List (S38)))} (hG_ : ∀ y0_, LeO (G_ y0_) (G2_ y0_)) : ∀ a0 a1 a2 a3 a4 a5 a6 a7 k, LeO (laws_toNode.F G_ k a0 a1 a2 a3 a4 a5 a6 a7) (laws_toNode.F G2_ (k + 1) a0 a1 a2 a3 a4 a5 a6 a7) := by
 intro a0 a1 a2 a3 a4 a5 a6 a7 k
 unfold laws_toNode.F
 repeat' first
   | (with_reducible exact laws_toAttrS.mono _ _)
   | (with_reducible exact laws_toDeclS.mono _ _)
   | (with_reducible exact hG_ _)
   | (with_reducible exact LeO.refl _)
   | (with_reducible exact LeO.none _)
   | (with_reducible refine LeO.ite ?_ ?_)
   | (with_reducible refine LeO.bind ?_ (fun _ => ?_))
   | exact laws_toAttrS.mono _ _
   | exact laws_toDeclS.mono _ _
   | exact hG_ _
   | exact LeO.none _
   | refine LeO.ite ?_ ?_
   | refine LeO.bind ?_ (fun _ => ?_)
theorem laws_toNode.callsF (G_ : List (S26) → Option ((List (S38)))) (hG_ : ∀ (A0 : Option Addr) (c0 : Nat) (l0 : List (S26)) (r : List (S38)) (w : World) (hr0 : Kd.C k26 w A0 l0.length l0) (hc0 : l0.length ≤ c0) (h : G_ l0 = some r), Calls Tryd.prog 25 #[.slice A0 l0.length c0] w fun e w' => ∃ v0_ : Value, e = .returned (v0_) ∧ Kd.S kD 38 w' w.heap.size (fun _ => True) v0_ r ∧ Below w.heap.size w w') (k : Nat) (a0_0 : Int) (a0_1 : ByteArray) (a0_2 : ByteArray) (a0_3 : ByteArray) (A0_4 : Option Addr) (c0_4 : Nat) (l0_4 : List (S76)) (A0_5 : Option Addr) (c0_5 : Nat) (l0_5 : List (S78)) (A0_6 : Option Addr) (c0_6 : Nat) (l0_6 : List (S26)) (a0_7 : ByteArray) (r1 : Int) (r2 : ByteArray) (r3 : ByteArray) (r4 : ByteArray) (r5 : List (S89)) (r6 : List (S64)) (r7 : List (S38)) (r8 : ByteArray) (w : World) (hr0_4 : Kd.C k76 w A0_4 l0_4.length l0_4) (hc0_4 : l0_4.length ≤ c0_4) (hr0_5 : Kd.C k78 w A0_5 l0_5.length l0_5) (hc0_5 : l0_5.length ≤ c0_5) (hr0_6 : Kd.C k26 w A0_6 l0_6.length l0_6) (hc0_6 : l0_6.length ≤ c0_6) (h : laws_toNode.F G_ k a0_0 a0_1 a0_2 a0_3 l0_4 l0_5 l0_6 a0_7 = some (r1, r2, r3, r4, r5, r6, r7, r8)) :
  Calls Tryd.prog 7 #[.agg #[.int .i64 a0_0, .string a0_1, .string a0_2, .string a0_3, .slice A0_4 l0_4.length c0_4, .slice A0_5 l0_5.length c0_5, .slice A0_6 l0_6.length c0_6, .string a0_7]] w fun e w' => ∃ v4_ v5_ v6_ : Value, e = .returned (.agg #[.int .i64 r1, .string r2, .string r3, .string r4, v4_, v5_, v6_, .string r8]) ∧ Kd.R k89 89 w' w.heap.size (fun _ => True) v4_ r5 ∧ Kd.R k64 64 w' w.heap.size (fun _ => True) v5_ r6 ∧ Kd.S kD 38 w' w.heap.size (fun k_ => some k_ ≠ (v4_ : Value).ownBlock ∧ some k_ ≠ (v5_ : Value).ownBlock) v6_ r7 ∧ Below w.heap.size w w' := by
 have hu26 := Tryd.underlying26
 have hu38 := Tryd.underlying38
 have HR0_4 := Aside0.mk hr0_4
 have HC0_4 := Aside0.mk hc0_4
 clear hr0_4 hc0_4
 have HR0_5 := Aside0.mk hr0_5
 have HC0_5 := Aside0.mk hc0_5
 clear hr0_5 hc0_5
 have HR0_6 := Aside0.mk hr0_6
 have HC0_6 := Aside0.mk hc0_6
 clear hr0_6 hc0_6
 have HB := Aside0.mk (Below.refl w.heap.size w)
 have H : ((laws_toDeclS.f k l0_4).bind fun t209 => ((laws_toAttrS.f k l0_5).bind fun t212 => ((G_ l0_6).bind fun t215 => (some (a0_0, a0_1, a0_2, a0_3, t209, t212, t215, a0_7))))) = some (r1, r2, r3, r4, r5, r6, r7, r8) := h
 clear h
 replace H := Option.bind_eq_some_iff.mp H
 obtain ⟨t209, A20, H⟩ := H
 try dsimp only at H
 have A2 := Aside0.mk A20
 clear A20
 replace H := Option.bind_eq_some_iff.mp H
 obtain ⟨t212, A30, H⟩ := H
 try dsimp only at H
 have A3 := Aside0.mk A30
 clear A30
 replace H := Option.bind_eq_some_iff.mp H
 obtain ⟨t215, A40, H⟩ := H
 try dsimp only at H
 have A4 := Aside0.mk A40
 clear A40
 simp only [Option.some.injEq, Prod.mk.injEq] at H
 obtain ⟨rfl, rfl, rfl, rfl, rfl, rfl, rfl, rfl⟩ := H
 go_enter Tryd.func7, Tryd.ntmps7
 go_wp2_with (first | ((with_reducible refine gate_dst (N := 1) rfl ?_); refine box_event ?hg (N := 1) ?hd (cs := #[.int .i64 a0_0, .string a0_1, .string a0_2, .string a0_3, .slice A0_4 l0_4.length c0_4, .slice A0_5 l0_5.length c0_5, .slice A0_6 l0_6.length c0_6, .string a0_7]) (t := 26) ?hr ?_; (case hd => rfl); (case hg => rfl); (case hr => first | (go_simp; done) | (go_simp; rfl)); intro gb206 hg w5 hbox hb; have BK206 := Aside0.mk (hbox); have GW206 := Aside0.mk ((by rw [hg]; exact (below_size hB) : w.heap.size ≤ gb206)); have GE206 := Aside0.mk ((by rw [hg]; exact (below_size hB) : w.heap.size ≤ gb206)); replace HB := Aside0.mk (below_step hB hb); clear hb hbox hg) | ((with_reducible refine gate_dst (N := 2) rfl ?_); refine box_event ?hg (N := 2) ?hd (cs := #[.int .i64 0, .string (⟨#[]⟩ : ByteArray), .string (⟨#[]⟩ : ByteArray), .string (⟨#[]⟩ : ByteArray), .slice none 0 0, .slice none 0 0, .slice none 0 0, .string (⟨#[]⟩ : ByteArray)]) (t := 38) ?hr ?_; (case hd => rfl); (case hg => rfl); (case hr => first | (go_simp; done) | (go_simp; rfl)); intro gb207 hg w6 hbox hb; have BK207 := Aside0.mk (hbox); have GW207 := Aside0.mk ((by rw [hg]; exact (below_size hB) : w.heap.size ≤ gb207)); have GE207 := Aside0.mk ((by rw [hg]; exact (below_size hB) : w.heap.size ≤ gb207)); replace HB := Aside0.mk (below_step hB hb); have NB206_207 := Aside0.mk ((by rw [hg]; exact Nat.ne_of_lt (blk_lt (g := gb206) (by (with_reducible repeat (first | refine bN ?_ _|refine bD ?_|refine bA ?_ _)); exact BK206.out)) : gb206 ≠ gb207)); have NB207_206 := Aside0.mk ((by rw [hg]; exact Nat.ne_of_gt (blk_lt (g := gb206) (by (with_reducible repeat (first | refine bN ?_ _|refine bD ?_|refine bA ?_ _)); exact BK206.out)) : gb207 ≠ gb206)); replace BK206 := Aside0.mk (blk_below (g := gb206) (by (with_reducible repeat (first | refine bN ?_ _|refine bD ?_|refine bA ?_ _)); exact BK206.out) hb); clear hb hbox hg) | ((with_reducible refine gate_dst (N := 3) rfl ?_); refine box_event ?hg (N := 3) ?hd (cs := #[.int .i64 0, .string (⟨#[]⟩ : ByteArray), .string (⟨#[]⟩ : ByteArray), .string (⟨#[]⟩ : ByteArray), .slice none 0 0, .slice none 0 0, .slice none 0 0, .string (⟨#[]⟩ : ByteArray)]) (t := 38) ?hr ?_; (case hd => rfl); (case hg => rfl); (case hr => first | (go_simp; done) | (go_simp; rfl)); intro gb208 hg w7 hbox hb; have BK208 := Aside0.mk (hbox); have GW208 := Aside0.mk ((by rw [hg]; exact (below_size hB) : w.heap.size ≤ gb208)); have GE208 := Aside0.mk ((by rw [hg]; exact (below_size hB) : w.heap.size ≤ gb208)); replace HB := Aside0.mk (below_step hB hb); have NB206_208 := Aside0.mk ((by rw [hg]; exact Nat.ne_of_lt (blk_lt (g := gb206) (by (with_reducible repeat (first | refine bN ?_ _|refine bD ?_|refine bA ?_ _)); exact BK206.out)) : gb206 ≠ gb208)); have NB208_206 := Aside0.mk ((by rw [hg]; exact Nat.ne_of_gt (blk_lt (g := gb206) (by (with_reducible repeat (first | refine bN ?_ _|refine bD ?_|refine bA ?_ _)); exact BK206.out)) : gb208 ≠ gb206)); replace BK206 := Aside0.mk (blk_below (g := gb206) (by (with_reducible repeat (first | refine bN ?_ _|refine bD ?_|refine bA ?_ _)); exact BK206.out) hb); have NB207_208 := Aside0.mk ((by rw [hg]; exact Nat.ne_of_lt (blk_lt (g := gb207) (by (with_reducible repeat (first | refine bN ?_ _|refine bD ?_|refine bA ?_ _)); exact BK207.out)) : gb207 ≠ gb208)); have NB208_207 := Aside0.mk ((by rw [hg]; exact Nat.ne_of_gt (blk_lt (g := gb207) (by (with_reducible repeat (first | refine bN ?_ _|refine bD ?_|refine bA ?_ _)); exact BK207.out)) : gb208 ≠ gb207)); replace BK207 := Aside0.mk (blk_below (g := gb207) (by (with_reducible repeat (first | refine bN ?_ _|refine bD ?_|refine bA ?_ _)); exact BK207.out) hb); clear hb hbox hg; have hnb8 := NB206_207.out; have hnc8 := NB207_206.out; have hnb9 := NB206_208.out; have hnc9 := NB208_206.out; obtain ⟨hcz10_0, hcz10_1, hcz10_2, hcz10_3, hcz10_4, hcz10_5, hcz10_6, hcz10_7⟩ := bc8 BK206.out; obtain ⟨hfz10_0, hfz10_1, hfz10_2, hfz10_3, hfz10_4, hfz10_5, hfz10_6, hfz10_7⟩ := bf8 BK206.out; have hnb11 := NB208_207.out; have hnc11 := NB207_208.out; obtain ⟨hcz12_0, hcz12_1, hcz12_2, hcz12_3, hcz12_4, hcz12_5, hcz12_6, hcz12_7⟩ := bc8 BK208.out; obtain ⟨hfz12_0, hfz12_1, hfz12_2, hfz12_3, hfz12_4, hfz12_5, hfz12_6, hfz12_7⟩ := bf8 BK208.out) | ((with_reducible refine gate_callee (f := 23) rfl ?_); refine goesL_ (some 18) rfl rfl Tryd.func23 (by kernel_rfl) rfl #[.slice A0_4 l0_4.length c0_4] rfl mA ?_; (with_reducible refine (laws_toDeclS.calls k _ _ l0_4 t209 _ ?side1 ?side2 A2.out).mono ?_); (case side1 => exact Kd.C_below HR0_4.out hB); (case side2 => exact HC0_4.out); rintro e w13 ⟨v210, rfl, ho0, hb⟩; refine ⟨_, rfl, ?_⟩; have HO211 := Aside0.mk (Kd.R_lower ho0 (below_size hB)); replace BK206 := Aside0.mk (blk_below (g := gb206) (o := .cells #[.int .i64 a0_0, .string a0_1, .string a0_2, .string a0_3, .slice A0_4 l0_4.length c0_4, .slice A0_5 l0_5.length c0_5, .slice A0_6 l0_6.length c0_6, .string a0_7] 26 (0, 0)) (by (with_reducible repeat (first | refine bN ?_ _|refine bD ?_|refine bA ?_ _)); refine blk_far ?_ NB206_208.out _; (with_reducible repeat (first | refine bN ?_ _|refine bD ?_|refine bA ?_ _)); refine blk_far ?_ NB206_208.out _; (with_reducible repeat (first | refine bN ?_ _|refine bD ?_|refine bA ?_ _)); refine blk_far ?_ NB206_208.out _; (with_reducible repeat (first | refine bN ?_ _|refine bD ?_|refine bA ?_ _)); refine blk_far ?_ NB206_208.out _; (with_reducible repeat (first | refine bN ?_ _|refine bD ?_|refine bA ?_ _)); exact BK206.out) hb); replace BK207 := Aside0.mk (blk_below (g := gb207) (o := .cells #[.int .i64 0, .string (⟨#[]⟩ : ByteArray), .string (⟨#[]⟩ : ByteArray), .string (⟨#[]⟩ : ByteArray), .slice none 0 0, .slice none 0 0, .slice none 0 0, .string (⟨#[]⟩ : ByteArray)] 38 (0, 0)) (by (with_reducible repeat (first | refine bN ?_ _|refine bD ?_|refine bA ?_ _)); refine blk_far ?_ NB207_208.out _; (with_reducible repeat (first | refine bN ?_ _|refine bD ?_|refine bA ?_ _)); refine blk_far ?_ NB207_208.out _; (with_reducible repeat (first | refine bN ?_ _|refine bD ?_|refine bA ?_ _)); refine blk_far ?_ NB207_208.out _; (with_reducible repeat (first | refine bN ?_ _|refine bD ?_|refine bA ?_ _)); refine blk_far ?_ NB207_208.out _; (with_reducible repeat (first | refine bN ?_ _|refine bD ?_|refine bA ?_ _)); exact BK207.out) hb); replace BK208 := Aside0.mk (blk_below (g := gb208) (o := .cells #[.int .i64 a0_0, .string a0_1, .string a0_2, .string a0_3, .slice none 0 0, .slice none 0 0, .slice none 0 0, .string (⟨#[]⟩ : ByteArray)] 38 (0, 0)) (by (with_reducible repeat (first | refine bN ?_ _|refine bD ?_|refine bA ?_ _)); refine blk_put (cs := #[.int .i64 a0_0, .string a0_1, .string a0_2, .string (⟨#[]⟩ : ByteArray), .slice none 0 0, .slice none 0 0, .slice none 0 0, .string (⟨#[]⟩ : ByteArray)]) ?_ 3 _ rfl; (with_reducible repeat (first | refine bN ?_ _|refine bD ?_|refine bA ?_ _)); refine blk_put (cs := #[.int .i64 a0_0, .string a0_1, .string (⟨#[]⟩ : ByteArray), .string (⟨#[]⟩ : ByteArray), .slice none 0 0, .slice none 0 0, .slice none 0 0, .string (⟨#[]⟩ : ByteArray)]) ?_ 2 _ rfl; (with_reducible repeat (first | refine bN ?_ _|refine bD ?_|refine bA ?_ _)); refine blk_put (cs := #[.int .i64 a0_0, .string (⟨#[]⟩ : ByteArray), .string (⟨#[]⟩ : ByteArray), .string (⟨#[]⟩ : ByteArray), .slice none 0 0, .slice none 0 0, .slice none 0 0, .string (⟨#[]⟩ : ByteArray)]) ?_ 1 _ rfl; (with_reducible repeat (first | refine bN ?_ _|refine bD ?_|refine bA ?_ _)); refine blk_put (cs := #[.int .i64 0, .string (⟨#[]⟩ : ByteArray), .string (⟨#[]⟩ : ByteArray), .string (⟨#[]⟩ : ByteArray), .slice none 0 0, .slice none 0 0, .slice none 0 0, .string (⟨#[]⟩ : ByteArray)]) ?_ 0 _ rfl; (with_reducible repeat (first | refine bN ?_ _|refine bD ?_|refine bA ?_ _)); exact BK208.out) hb); replace HB := Aside0.mk (below_step hB hb); (try clear hb); (try clear hb2); (try clear hk); (try clear hi); (try clear ho0); obtain ⟨Ao14, co14, eo14⟩ := Kd.R_slice HO211.out; subst eo14; obtain ⟨hcz15_0, hcz15_1, hcz15_2, hcz15_3, hcz15_4, hcz15_5, hcz15_6, hcz15_7⟩ := bc8 BK208.out; obtain ⟨hfz15_0, hfz15_1, hfz15_2, hfz15_3, hfz15_4, hfz15_5, hfz15_6, hfz15_7⟩ := bf8 BK208.out; obtain ⟨hcz16_0, hcz16_1, hcz16_2, hcz16_3, hcz16_4, hcz16_5, hcz16_6, hcz16_7⟩ := bc8 BK206.out; obtain ⟨hfz16_0, hfz16_1, hfz16_2, hfz16_3, hfz16_4, hfz16_5, hfz16_6, hfz16_7⟩ := bf8 BK206.out) | ((with_reducible refine gate_callee (f := 24) rfl ?_); refine goesL_ (some 22) rfl rfl Tryd.func24 (by kernel_rfl) rfl #[.slice A0_5 l0_5.length c0_5] rfl mA ?_; (with_reducible refine (laws_toAttrS.calls k _ _ l0_5 t212 _ ?side1 ?side2 A3.out).mono ?_); (case side1 => exact Kd.C_below HR0_5.out hB); (case side2 => exact HC0_5.out); rintro e w17 ⟨v213, rfl, ho0, hb⟩; refine ⟨_, rfl, ?_⟩; replace HO211 := Aside0.mk (Kd.R_below (by (with_reducible repeat (first|apply rA|apply rN|apply rD|apply Kd.S_alloc|apply Kd.S_drewN|apply Kd.S_drew)); exact (Kd.R_mono (Kd.R_far (p := ⟨gb208, 4, none⟩) (Kd.R_types HO211.out BK208.out (by decide)) (fun _ hk => hk.2) (.slice Ao14 t209.length co14)) (fun _ h_ => h_.1))) hb); have HO214 := Aside0.mk (Kd.R_lower ho0 (below_size hB)); replace BK206 := Aside0.mk (blk_below (g := gb206) (o := .cells #[.int .i64 a0_0, .string a0_1, .string a0_2, .string a0_3, .slice A0_4 l0_4.length c0_4, .slice A0_5 l0_5.length c0_5, .slice A0_6 l0_6.length c0_6, .string a0_7] 26 (0, 0)) (by (with_reducible repeat (first | refine bN ?_ _|refine bD ?_|refine bA ?_ _)); refine blk_far ?_ NB206_208.out _; (with_reducible repeat (first | refine bN ?_ _|refine bD ?_|refine bA ?_ _)); exact BK206.out) hb); replace BK207 := Aside0.mk (blk_below (g := gb207) (o := .cells #[.int .i64 0, .string (⟨#[]⟩ : ByteArray), .string (⟨#[]⟩ : ByteArray), .string (⟨#[]⟩ : ByteArray), .slice none 0 0, .slice none 0 0, .slice none 0 0, .string (⟨#[]⟩ : ByteArray)] 38 (0, 0)) (by (with_reducible repeat (first | refine bN ?_ _|refine bD ?_|refine bA ?_ _)); refine blk_far ?_ NB207_208.out _; (with_reducible repeat (first | refine bN ?_ _|refine bD ?_|refine bA ?_ _)); exact BK207.out) hb); replace BK208 := Aside0.mk (blk_below (g := gb208) (o := .cells #[.int .i64 a0_0, .string a0_1, .string a0_2, .string a0_3, .slice Ao14 t209.length co14, .slice none 0 0, .slice none 0 0, .string (⟨#[]⟩ : ByteArray)] 38 (0, 0)) (by (with_reducible repeat (first | refine bN ?_ _|refine bD ?_|refine bA ?_ _)); refine blk_put (cs := #[.int .i64 a0_0, .string a0_1, .string a0_2, .string a0_3, .slice none 0 0, .slice none 0 0, .slice none 0 0, .string (⟨#[]⟩ : ByteArray)]) ?_ 4 _ rfl; (with_reducible repeat (first | refine bN ?_ _|refine bD ?_|refine bA ?_ _)); exact BK208.out) hb); replace HB := Aside0.mk (below_step hB hb); (try clear hb); (try clear hb2); (try clear hk); (try clear hi); (try clear ho0); obtain ⟨Ao18, co18, eo18⟩ := Kd.R_slice HO214.out; subst eo18; obtain ⟨hcz19_0, hcz19_1, hcz19_2, hcz19_3, hcz19_4, hcz19_5, hcz19_6, hcz19_7⟩ := bc8 BK208.out; obtain ⟨hfz19_0, hfz19_1, hfz19_2, hfz19_3, hfz19_4, hfz19_5, hfz19_6, hfz19_7⟩ := bf8 BK208.out; obtain ⟨hcz20_0, hcz20_1, hcz20_2, hcz20_3, hcz20_4, hcz20_5, hcz20_6, hcz20_7⟩ := bc8 BK206.out; obtain ⟨hfz20_0, hfz20_1, hfz20_2, hfz20_3, hfz20_4, hfz20_5, hfz20_6, hfz20_7⟩ := bf8 BK206.out) | ((with_reducible refine gate_callee (f := 25) rfl ?_); refine goesL_ (some 26) rfl rfl Tryd.func25 (by kernel_rfl) rfl #[.slice A0_6 l0_6.length c0_6] rfl mA ?_; (with_reducible refine (hG_ _ _ l0_6 t215 _ ?side1 ?side2 A4.out).mono ?_); (case side1 => exact Kd.C_below HR0_6.out hB); (case side2 => exact HC0_6.out); rintro e w21 ⟨v216, rfl, ho0, hb⟩; refine ⟨_, rfl, ?_⟩; have HO217 := Aside0.mk (Kd.S_lower (Kd.S_newB (Kd.S_newB (Kd.S_new' (Kd.S_new' ho0 (Kd.R_lt (by (with_reducible repeat (first|apply rA|apply rN|apply rD|apply Kd.S_alloc|apply Kd.S_drewN|apply Kd.S_drew)); exact (Kd.R_mono (Kd.R_far (p := ⟨gb208, 5, none⟩) (Kd.R_types HO211.out BK208.out (by decide)) (fun _ hk => hk.2) (.slice Ao18 t212.length co18)) (fun _ h_ => h_.1))))) (Kd.R_lt (by (with_reducible repeat (first|apply rA|apply rN|apply rD|apply Kd.S_alloc|apply Kd.S_drewN|apply Kd.S_drew)); exact (Kd.R_mono (Kd.R_far (p := ⟨gb208, 5, none⟩) (Kd.R_types HO214.out BK208.out (by decide)) (fun _ hk => hk.2) (.slice Ao18 t212.length co18)) (fun _ h_ => h_.1))))) (g := gb207) (o := .cells #[.int .i64 0, .string (⟨#[]⟩ : ByteArray), .string (⟨#[]⟩ : ByteArray), .string (⟨#[]⟩ : ByteArray), .slice none 0 0, .slice none 0 0, .slice none 0 0, .string (⟨#[]⟩ : ByteArray)] 38 (0, 0)) (by (with_reducible repeat (first | refine bN ?_ _|refine bD ?_|refine bA ?_ _)); refine blk_far ?_ NB207_208.out _; (with_reducible repeat (first | refine bN ?_ _|refine bD ?_|refine bA ?_ _)); exact BK207.out)) (g := gb208) (o := .cells #[.int .i64 a0_0, .string a0_1, .string a0_2, .string a0_3, .slice Ao14 t209.length co14, .slice Ao18 t212.length co18, .slice none 0 0, .string (⟨#[]⟩ : ByteArray)] 38 (0, 0)) (by (with_reducible repeat (first | refine bN ?_ _|refine bD ?_|refine bA ?_ _)); refine blk_put (cs := #[.int .i64 a0_0, .string a0_1, .string a0_2, .string a0_3, .slice Ao14 t209.length co14, .slice none 0 0, .slice none 0 0, .string (⟨#[]⟩ : ByteArray)]) ?_ 5 _ rfl; (with_reducible repeat (first | refine bN ?_ _|refine bD ?_|refine bA ?_ _)); exact BK208.out)) (below_size hB)); replace HO211 := Aside0.mk (Kd.R_below (by (with_reducible repeat (first|apply rA|apply rN|apply rD|apply Kd.S_alloc|apply Kd.S_drewN|apply Kd.S_drew)); exact (Kd.R_mono (Kd.R_far (p := ⟨gb208, 5, none⟩) (Kd.R_types HO211.out BK208.out (by decide)) (fun _ hk => hk.2) (.slice Ao18 t212.length co18)) (fun _ h_ => h_.1))) hb); replace HO214 := Aside0.mk (Kd.R_below (by (with_reducible repeat (first|apply rA|apply rN|apply rD|apply Kd.S_alloc|apply Kd.S_drewN|apply Kd.S_drew)); exact (Kd.R_mono (Kd.R_far (p := ⟨gb208, 5, none⟩) (Kd.R_types HO214.out BK208.out (by decide)) (fun _ hk => hk.2) (.slice Ao18 t212.length co18)) (fun _ h_ => h_.1))) hb); replace BK206 := Aside0.mk (blk_below (g := gb206) (o := .cells #[.int .i64 a0_0, .string a0_1, .string a0_2, .string a0_3, .slice A0_4 l0_4.length c0_4, .slice A0_5 l0_5.length c0_5, .slice A0_6 l0_6.length c0_6, .string a0_7] 26 (0, 0)) (by (with_reducible repeat (first | refine bN ?_ _|refine bD ?_|refine bA ?_ _)); refine blk_far ?_ NB206_208.out _; (with_reducible repeat (first | refine bN ?_ _|refine bD ?_|refine bA ?_ _)); exact BK206.out) hb); replace BK207 := Aside0.mk (blk_below (g := gb207) (o := .cells #[.int .i64 0, .string (⟨#[]⟩ : ByteArray), .string (⟨#[]⟩ : ByteArray), .string (⟨#[]⟩ : ByteArray), .slice none 0 0, .slice none 0 0, .slice none 0 0, .string (⟨#[]⟩ : ByteArray)] 38 (0, 0)) (by (with_reducible repeat (first | refine bN ?_ _|refine bD ?_|refine bA ?_ _)); refine blk_far ?_ NB207_208.out _; (with_reducible repeat (first | refine bN ?_ _|refine bD ?_|refine bA ?_ _)); exact BK207.out) hb); replace BK208 := Aside0.mk (blk_below (g := gb208) (o := .cells #[.int .i64 a0_0, .string a0_1, .string a0_2, .string a0_3, .slice Ao14 t209.length co14, .slice Ao18 t212.length co18, .slice none 0 0, .string (⟨#[]⟩ : ByteArray)] 38 (0, 0)) (by (with_reducible repeat (first | refine bN ?_ _|refine bD ?_|refine bA ?_ _)); refine blk_put (cs := #[.int .i64 a0_0, .string a0_1, .string a0_2, .string a0_3, .slice Ao14 t209.length co14, .slice none 0 0, .slice none 0 0, .string (⟨#[]⟩ : ByteArray)]) ?_ 5 _ rfl; (with_reducible repeat (first | refine bN ?_ _|refine bD ?_|refine bA ?_ _)); exact BK208.out) hb); replace HB := Aside0.mk (below_step hB hb); (try clear hb); (try clear hb2); (try clear hk); (try clear hi); (try clear ho0); obtain ⟨Ao22, co22, eo22⟩ := Kd.S_slice HO217.out; subst eo22; obtain ⟨hcz23_0, hcz23_1, hcz23_2, hcz23_3, hcz23_4, hcz23_5, hcz23_6, hcz23_7⟩ := bc8 BK208.out; obtain ⟨hfz23_0, hfz23_1, hfz23_2, hfz23_3, hfz23_4, hfz23_5, hfz23_6, hfz23_7⟩ := bf8 BK208.out; obtain ⟨hcz24_0, hcz24_1, hcz24_2, hcz24_3, hcz24_4, hcz24_5, hcz24_6, hcz24_7⟩ := bc8 BK206.out; obtain ⟨hfz24_0, hfz24_1, hfz24_2, hfz24_3, hfz24_4, hfz24_5, hfz24_6, hfz24_7⟩ := bf8 BK206.out; obtain ⟨hcz25_0, hcz25_1, hcz25_2, hcz25_3, hcz25_4, hcz25_5, hcz25_6, hcz25_7⟩ := bc8 BK207.out; obtain ⟨hfz25_0, hfz25_1, hfz25_2, hfz25_3, hfz25_4, hfz25_5, hfz25_6, hfz25_7⟩ := bf8 BK207.out))
 refine bodyPost_ret (results_cell_row rfl _ _ gb207 38 #[.int .i64 a0_0, .string a0_1, .string a0_2, .string a0_3, .slice Ao14 t209.length co14, .slice Ao18 t212.length co18, .slice Ao22 t215.length co22, .string a0_7] (0, 0) _ rfl (by (with_reducible repeat (first | refine bN ?_ _|refine bD ?_|refine bA ?_ _)); exact put8 (by (with_reducible repeat (first | refine bN ?_ _|refine bD ?_|refine bA ?_ _)); refine blk_far ?_ NB207_208.out _; (with_reducible repeat (first | refine bN ?_ _|refine bD ?_|refine bA ?_ _)); refine blk_far ?_ NB207_208.out _; (with_reducible repeat (first | refine bN ?_ _|refine bD ?_|refine bA ?_ _)); exact BK207.out)) Tryd.underlying38 rfl (by kernel_rfl)) rfl ?_
 exact ⟨_, _, _, rE, by (with_reducible repeat (first|apply rA|apply rN|apply rD|apply Kd.S_alloc|apply Kd.S_drewN|apply Kd.S_drew)); exact Kd.R_mono (Kd.R_far (p := ⟨gb207, 7, none⟩) (Kd.R_far (p := ⟨gb207, 6, none⟩) (Kd.R_far (p := ⟨gb207, 5, none⟩) (Kd.R_far (p := ⟨gb207, 4, none⟩) (Kd.R_far (p := ⟨gb207, 3, none⟩) (Kd.R_far (p := ⟨gb207, 2, none⟩) (Kd.R_far (p := ⟨gb207, 1, none⟩) (Kd.R_far (p := ⟨gb207, 0, none⟩) (Kd.R_far (p := ⟨gb208, 7, none⟩) (Kd.R_far (p := ⟨gb208, 6, none⟩) (Kd.R_types (Kd.R_types HO211.out BK208.out (by decide)) BK207.out (by decide)) (fun _ hk => hk.1.2) (.slice Ao22 t215.length co22)) (fun _ hk => hk.1.2) (.string a0_7)) (fun _ hk => hk.2) (.int .i64 a0_0)) (fun _ hk => hk.2) (.string a0_1)) (fun _ hk => hk.2) (.string a0_2)) (fun _ hk => hk.2) (.string a0_3)) (fun _ hk => hk.2) (.slice Ao14 t209.length co14)) (fun _ hk => hk.2) (.slice Ao18 t212.length co18)) (fun _ hk => hk.2) (.slice Ao22 t215.length co22)) (fun _ hk => hk.2) (.string a0_7)) (fun _ hk => trivial), by (with_reducible repeat (first|apply rA|apply rN|apply rD|apply Kd.S_alloc|apply Kd.S_drewN|apply Kd.S_drew)); exact Kd.R_mono (Kd.R_far (p := ⟨gb207, 7, none⟩) (Kd.R_far (p := ⟨gb207, 6, none⟩) (Kd.R_far (p := ⟨gb207, 5, none⟩) (Kd.R_far (p := ⟨gb207, 4, none⟩) (Kd.R_far (p := ⟨gb207, 3, none⟩) (Kd.R_far (p := ⟨gb207, 2, none⟩) (Kd.R_far (p := ⟨gb207, 1, none⟩) (Kd.R_far (p := ⟨gb207, 0, none⟩) (Kd.R_far (p := ⟨gb208, 7, none⟩) (Kd.R_far (p := ⟨gb208, 6, none⟩) (Kd.R_types (Kd.R_types HO214.out BK208.out (by decide)) BK207.out (by decide)) (fun _ hk => hk.1.2) (.slice Ao22 t215.length co22)) (fun _ hk => hk.1.2) (.string a0_7)) (fun _ hk => hk.2) (.int .i64 a0_0)) (fun _ hk => hk.2) (.string a0_1)) (fun _ hk => hk.2) (.string a0_2)) (fun _ hk => hk.2) (.string a0_3)) (fun _ hk => hk.2) (.slice Ao14 t209.length co14)) (fun _ hk => hk.2) (.slice Ao18 t212.length co18)) (fun _ hk => hk.2) (.slice Ao22 t215.length co22)) (fun _ hk => hk.2) (.string a0_7)) (fun _ hk => trivial), by (with_reducible repeat (first|apply rA|apply rN|apply rD|apply Kd.S_alloc|apply Kd.S_drewN|apply Kd.S_drew)); exact Kd.S_mono (Kd.S_far (p := ⟨gb207, 7, none⟩) (Kd.S_far (p := ⟨gb207, 6, none⟩) (Kd.S_far (p := ⟨gb207, 5, none⟩) (Kd.S_far (p := ⟨gb207, 4, none⟩) (Kd.S_far (p := ⟨gb207, 3, none⟩) (Kd.S_far (p := ⟨gb207, 2, none⟩) (Kd.S_far (p := ⟨gb207, 1, none⟩) (Kd.S_far (p := ⟨gb207, 0, none⟩) (Kd.S_far (p := ⟨gb208, 7, none⟩) (Kd.S_far (p := ⟨gb208, 6, none⟩) (Kd.S_mono (Kd.S_mono HO217.out (fun k_ hk => (⟨hk, hk.2⟩ : _ ∧ k_ ≠ gb208))) (fun k_ hk => (⟨hk, hk.1.1.2⟩ : _ ∧ k_ ≠ gb207))) (fun _ hk => hk.1.2) (.slice Ao22 t215.length co22)) (fun _ hk => hk.1.2) (.string a0_7)) (fun _ hk => hk.2) (.int .i64 a0_0)) (fun _ hk => hk.2) (.string a0_1)) (fun _ hk => hk.2) (.string a0_2)) (fun _ hk => hk.2) (.string a0_3)) (fun _ hk => hk.2) (.slice Ao14 t209.length co14)) (fun _ hk => hk.2) (.slice Ao18 t212.length co18)) (fun _ hk => hk.2) (.slice Ao22 t215.length co22)) (fun _ hk => hk.2) (.string a0_7)) (fun _ hk => ⟨hk.1.1.1.1.1.2, hk.1.1.1.1.2⟩), hB⟩
/-! ### laws_toNodeS: function 25 -/
mutual
def laws_toNodeS.l0 : Nat → List (S26) → List (S38) → Int → Option ((List (S38)))
 | 0, _, _, _ => none
 | k + 1, x0, x3, x4 => if x4 < (x0.length : Int) then (if 0 ≤ x4 then ((laws_toNode.F (fun y0_ => laws_toNodeS.f k y0_) k ((rd_T26 x0 x4).f0) ((rd_T26 x0 x4).f1) ((rd_T26 x0 x4).f2) ((rd_T26 x0 x4).f3) ((rd_T26 x0 x4).f4) ((rd_T26 x0 x4).f5) ((rd_T26 x0 x4).f6) ((rd_T26 x0 x4).f7)).bind fun bt352 => (if x4 < (x3.length : Int) then (laws_toNodeS.l0 k x0 (x3.set (x4 : Int).toNat (⟨bt352.1, bt352.2.1, bt352.2.2.1, bt352.2.2.2.1, bt352.2.2.2.2.1, bt352.2.2.2.2.2.1, bt352.2.2.2.2.2.2.1, bt352.2.2.2.2.2.2.2⟩ : S38)) (wrap64 (x4 + 1))) else (none))) else (none)) else (some x3)
def laws_toNodeS.f : Nat → List (S26) → Option ((List (S38)))
 | 0, _ => none
 | k + 1, l0 => if 0 ≤ (l0.length : Int) then (if ((l0.length : Int) : Int).toNat ≤ 1954687338268 then (laws_toNodeS.l0 k l0 (List.replicate ((l0.length : Int) : Int).toNat z38) 0) else (none)) else (none)
end
theorem laws_toNodeS.callsD (k : Nat) : ∀ (A0 : Option Addr) (c0 : Nat) (l0 : List (S26)) (r : List (S38)) (w : World) (hr0 : Kd.C k26 w A0 l0.length l0) (hc0 : l0.length ≤ c0) (h : laws_toNodeS.f k l0 = some r),
  Calls Tryd.prog 25 #[.slice A0 l0.length c0] w fun e w' => ∃ v0_ : Value, e = .returned (v0_) ∧ Kd.S kD 38 w' w.heap.size (fun _ => True) v0_ r ∧ Below w.heap.size w w' := by
 induction k using Nat.strongRecOn with
 | _ k ih =>
 intro A0 c0 l0 r w hr0 hc0 h
 cases k with
 | zero => exact absurd h (by simp [laws_toNodeS.f])
 | succ k =>
 simp only [laws_toNodeS.f] at h
 have hu26 := Tryd.underlying26
 have hu38 := Tryd.underlying38
 have HR0 := Aside0.mk hr0
 have HC0 := Aside0.mk hc0
 clear hr0 hc0
 have HB := Aside0.mk (Below.refl w.heap.size w)
 have H : (if 0 ≤ (l0.length : Int) then (if ((l0.length : Int) : Int).toNat ≤ 1954687338268 then (laws_toNodeS.l0 k l0 (List.replicate ((l0.length : Int) : Int).toNat z38) 0) else (none)) else (none)) = some r := h
 clear h
 obtain ⟨c2, H⟩ := if_som H
 obtain ⟨c2b0, c2b1⟩ := fcT c2
 clear c2
 obtain ⟨c3, H⟩ := if_som H
 obtain ⟨c3b0, c3b1⟩ := fcT c3
 clear c3
 obtain ⟨y348, hy348⟩ : ∃ y_ : List (S38), y_ = (List.replicate ((l0.length : Int) : Int).toNat z38) := ⟨_, rfl⟩
 replace H : (laws_toNodeS.l0 k l0 y348 0) = some r := by first | (rw [hy348]; with_reducible exact H) | (have H2_ := (Option.bind_some _ _).symm.trans H; rw [hy348]; with_reducible exact H2_) | (have H2_ := (Option.bind_some _ _).symm.trans H; with_reducible exact H2_) | with_reducible exact H | (rw [hy348]; exact H) | exact H
 have Ny348 := Aside0.mk hy348
 clear hy348
 have H' := Aside0.mk H
 clear H
 go_enter Tryd.func25, Tryd.ntmps25
 go_wp2_with (first | ((with_reducible refine gate_dst (N := 7) rfl ?_); refine Kd.S_make kD _ 38 rfl (N := 7) rfl 36 _ _ rfl (l0.length : Int) rfl rfl Tryd.underlying36 (.agg #[(.int .i64 0), (.string ⟨#[]⟩), (.string ⟨#[]⟩), (.string ⟨#[]⟩), (.slice none 0 0), (.slice none 0 0), (.slice none 0 0), (.string ⟨#[]⟩)]) 144 info38 rfl (by decide) (by omega) z38 (ok := fun _ => True) (okp := fun _ => True) (kD_zero _ _ _) (fun _ hk => hk) trivial (odt) (Nat.le_trans (Nat.mul_le_mul_right _ (odt : (l0.length : Int).toNat ≤ 1954687338268)) (by omega)) (Below.refl _ _) (Nat.le_refl _) ?_; intro v349 w4 ho5 hb hg_ hnew_; clear hg_ hnew_; (first | rw [← Ny348.out] at ho5 | (simp only [Int.reduceToNat] at ho5; rw [← Ny348.out] at ho5)); have HO350 := Aside0.mk (Kd.S_lower ho5 (below_size hB)); replace HB := Aside0.mk (below_step hB hb); clear hb ho5))
 go_loopg [4] k (fun kq v4 w' => ∃ (x3_1 : List (S38)) (x4_1 : Int), v4 = .int .i64 x4_1 ∧ Aside0 (laws_toNodeS.l0 kq l0 x3_1 x4_1 = some r) ∧ Aside0 (kq ≤ k) ∧ Aside0 (Kd.S kD 38 w' w.heap.size (fun _ => True) v349 x3_1) ∧ Aside0 (Below w.heap.size w w'))
 case atStart => exact ⟨(y348), (0), rG, H', ⟨Nat.le_refl _⟩, ⟨by (with_reducible repeat (first|apply rA|apply rN|apply rD|apply Kd.S_alloc|apply Kd.S_drewN|apply Kd.S_drew)); exact HO350.out⟩, ⟨hB⟩⟩
 case round =>
  clear H'
  try clear c3; try clear c3b1; try clear c3b0; try clear c2; try clear c2b1; try clear c2b0
  obtain ⟨x3_1, x4_1, rfl, HA, HK1, HO_3, HB⟩ := hrel
  cases gk with
  | zero => exact absurd HA.out (by simp [laws_toNodeS.l0])
  | succ k1 =>
   have H := HA.out
   clear HA
   simp only [laws_toNodeS.l0] at H
   by_cases c6 : x4_1 < (l0.length : Int)
   ·rw [if_pos c6] at H
    have c6b0 : decide (x4_1 < (l0.length : Int)) = true := decide_eq_true c6
    clear c6
    obtain ⟨c7, H⟩ := if_som H
    have c7b0 : decide (0 ≤ x4_1) = true := decide_eq_true c7
    clear c7
    replace H := Option.bind_eq_some_iff.mp H
    obtain ⟨⟨t352, t353, t354, t355, t356, t359, t362, t365⟩, A80, H⟩ := H
    try dsimp only at H
    have A8 := Aside0.mk A80
    clear A80
    have p351 : 0 ≤ (x4_1 : Int) := odt
    have q351 : x4_1 < (l0.length : Int) := odt
    obtain ⟨ad351, A351_4, c351_4, A351_5, c351_5, A351_6, c351_6, e351, hx351_0, hx351_1, hx351_2, hx351_3, hx351_4, hx351_5, hx351_6, hx351_7, hl351_4, hi351_4, hl351_5, hi351_5, hl351_6, hi351_6⟩ := at_T26 HR0.out x4_1 p351 q351
    cases e351
    replace hx351_0 := pw_cell_below HB.out hx351_0
    replace hx351_1 := pw_cell_below HB.out hx351_1
    replace hx351_2 := pw_cell_below HB.out hx351_2
    replace hx351_3 := pw_cell_below HB.out hx351_3
    replace hx351_4 := pw_cell_below HB.out hx351_4
    replace hx351_5 := pw_cell_below HB.out hx351_5
    replace hx351_6 := pw_cell_below HB.out hx351_6
    replace hx351_7 := pw_cell_below HB.out hx351_7
    have HR351_4 := Aside0.mk hi351_4
    have HC351_4 := Aside0.mk hl351_4
    clear hi351_4 hl351_4
    have HR351_5 := Aside0.mk hi351_5
    have HC351_5 := Aside0.mk hl351_5
    clear hi351_5 hl351_5
    have HR351_6 := Aside0.mk hi351_6
    have HC351_6 := Aside0.mk hl351_6
    clear hi351_6 hl351_6
    replace p351 := eq_true p351
    replace q351 := eq_true q351
    go_wp2_with (first | ((with_reducible refine gate_callee (f := 7) rfl ?_); refine goesL_ (some 20) rfl rfl Tryd.func7 (by kernel_rfl) rfl #[.agg #[.int .i64 ((rd_T26 l0 x4_1).f0), .string ((rd_T26 l0 x4_1).f1), .string ((rd_T26 l0 x4_1).f2), .string ((rd_T26 l0 x4_1).f3), .slice A351_4 ((rd_T26 l0 x4_1).f4).length c351_4, .slice A351_5 ((rd_T26 l0 x4_1).f5).length c351_5, .slice A351_6 ((rd_T26 l0 x4_1).f6).length c351_6, .string ((rd_T26 l0 x4_1).f7)]] rfl mA ?_; (with_reducible refine (laws_toNode.callsF (laws_toNodeS.f k1) (ih k1 (by first | omega | (have := HK1.out; omega))) k1 ((rd_T26 l0 x4_1).f0) ((rd_T26 l0 x4_1).f1) ((rd_T26 l0 x4_1).f2) ((rd_T26 l0 x4_1).f3) _ _ ((rd_T26 l0 x4_1).f4) _ _ ((rd_T26 l0 x4_1).f5) _ _ ((rd_T26 l0 x4_1).f6) ((rd_T26 l0 x4_1).f7) t352 t353 t354 t355 t356 t359 t362 t365 _ ?side1 ?side2 ?side3 ?side4 ?side5 ?side6 A8.out).mono ?_); (case side1 => repeat (first | exact (Kd.C_below HR351_4.out HB.out) | (with_reducible refine Kd.C_alloc ?_ _) | (with_reducible refine Kd.C_drewN ?_ _) | (with_reducible refine Kd.C_drew ?_))); (case side2 => exact HC351_4.out); (case side3 => repeat (first | exact (Kd.C_below HR351_5.out HB.out) | (with_reducible refine Kd.C_alloc ?_ _) | (with_reducible refine Kd.C_drewN ?_ _) | (with_reducible refine Kd.C_drew ?_))); (case side4 => exact HC351_5.out); (case side5 => repeat (first | exact (Kd.C_below HR351_6.out HB.out) | (with_reducible refine Kd.C_alloc ?_ _) | (with_reducible refine Kd.C_drewN ?_ _) | (with_reducible refine Kd.C_drew ?_))); (case side6 => exact HC351_6.out); rintro e w9 ⟨v357, v360, v363, rfl, ho0, ho1, ho2, hb⟩; refine ⟨_, rfl, ?_⟩; obtain ⟨N_, hNb, hN0, hN1, hN2, hN3⟩ : ∃ N : Nat, w.heap.size ≤ N ∧ Kd.R k89 89 w9 N (fun _ => True) v357 t356 ∧ Kd.R k64 64 w9 N (fun _ => True) v360 t359 ∧ Kd.S kD 38 w9 N (fun k_ => some k_ ≠ (v357 : Value).ownBlock ∧ some k_ ≠ (v360 : Value).ownBlock) v363 t362 ∧ Kd.S kD 38 w9 w.heap.size (fun k_ => k_ < N) v349 x3_1 := ⟨_, below_size hB, ho0, ho1, ho2, Kd.S_mono (Kd.S_old (by (with_reducible repeat (first|apply rA|apply rN|apply rD|apply Kd.S_alloc|apply Kd.S_drewN|apply Kd.S_drew)); exact HO_3.out) hb) (fun _ h_ => h_.2)⟩; have HN_ := Aside0.mk (And.intro hNb (And.intro hN0 (And.intro hN1 (And.intro hN2 hN3)))); clear hNb hN0 hN1 hN2 hN3; have HO358 := Aside0.mk (Kd.R_lower ho0 (below_size hB)); have HO361 := Aside0.mk (Kd.R_lower ho1 (below_size hB)); have HO364 := Aside0.mk (Kd.S_lower (Kd.S_new' ho2 (Kd.S_lt (by (with_reducible repeat (first|apply rA|apply rN|apply rD|apply Kd.S_alloc|apply Kd.S_drewN|apply Kd.S_drew)); exact HO_3.out))) (below_size hB)); replace HO_3 := Aside0.mk (Kd.S_mono (Kd.S_told (Kd.S_told (Kd.S_told (Kd.S_old (by (with_reducible repeat (first|apply rA|apply rN|apply rD|apply Kd.S_alloc|apply Kd.S_drewN|apply Kd.S_drew)); exact HO_3.out) hb) (Kd.R_base ho0)) (Kd.R_base ho1)) (Kd.S_base ho2)) (fun _ h_ => h_.1)); replace HB := Aside0.mk (below_step hB hb); (try clear hb); (try clear hb2); (try clear hk); (try clear hi); (try clear ho0); (try clear ho1); (try clear ho2); refine halt_ ?_; intro q_ hq_))
    obtain ⟨rfl⟩ := hq_
    obtain ⟨c10, H⟩ := if_som H
    have c10b0 : decide (x4_1 < (x3_1.length : Int)) = true := decide_eq_true c10
    clear c10
    obtain ⟨y366, hy366⟩ : ∃ y_ : List (S38), y_ = (x3_1.set (x4_1 : Int).toNat (⟨t352, t353, t354, t355, t356, t359, t362, t365⟩ : S38)) := ⟨_, rfl⟩
    replace H : (laws_toNodeS.l0 k1 l0 y366 (wrap64 (x4_1 + 1))) = some r := by first | (rw [hy366]; with_reducible exact H) | (have H2_ := (Option.bind_some _ _).symm.trans H; rw [hy366]; with_reducible exact H2_) | (have H2_ := (Option.bind_some _ _).symm.trans H; with_reducible exact H2_) | with_reducible exact H | (rw [hy366]; exact H) | exact H
    have Ny366 := Aside0.mk hy366
    clear hy366
    have H' := Aside0.mk H
    clear H
    have p11 : 0 ≤ (x4_1 : Int) := odt
    have q11 : (x4_1 : Int) < ((x3_1.length : Int) : Int) := odt
    obtain ⟨go11, co11, eo11, gb11, gl11, cl11, HG11⟩ := Kd.R_form (kD_toR HO_3.out) (by omega)
    (first | cases eo11 | (injection eo11 with ea_ en_ ec_; (first | subst ea_ | (injection ea_ with ea_; subst ea_)); subst ec_; clear en_))
    have GB11 := Aside0.mk gb11
    have GG11 := Aside0.mk HG11
    clear gb11 gl11 HG11
    obtain ⟨ce11, hcl11, hM11, hcc11, hfr11⟩ := Kd.R_elem (kD_toR HO_3.out) z38 (x4_1 : Int) p11 q11
    obtain ⟨ve11_4, ve11_5, ve11_6, rfl, ge11_4, ge11_5, ge11_6⟩ := k38_openM hM11
    have hx11_0 : w9.cell? ⟨go11, (x4_1 : Int).toNat * 8, none⟩ = some (.int .i64 ((rd_T38 x3_1 x4_1).f0)) := hcc11 0 _ rfl
    have hx11_1 : w9.cell? ⟨go11, (x4_1 : Int).toNat * 8 + 1, none⟩ = some (.string ((rd_T38 x3_1 x4_1).f1)) := hcc11 1 _ rfl
    have hx11_2 : w9.cell? ⟨go11, (x4_1 : Int).toNat * 8 + 2, none⟩ = some (.string ((rd_T38 x3_1 x4_1).f2)) := hcc11 2 _ rfl
    have hx11_3 : w9.cell? ⟨go11, (x4_1 : Int).toNat * 8 + 3, none⟩ = some (.string ((rd_T38 x3_1 x4_1).f3)) := hcc11 3 _ rfl
    have hx11_4 : w9.cell? ⟨go11, (x4_1 : Int).toNat * 8 + 4, none⟩ = some (ve11_4) := hcc11 4 _ rfl
    have hx11_5 : w9.cell? ⟨go11, (x4_1 : Int).toNat * 8 + 5, none⟩ = some (ve11_5) := hcc11 5 _ rfl
    have hx11_6 : w9.cell? ⟨go11, (x4_1 : Int).toNat * 8 + 6, none⟩ = some (ve11_6) := hcc11 6 _ rfl
    have hx11_7 : w9.cell? ⟨go11, (x4_1 : Int).toNat * 8 + 7, none⟩ = some (.string ((rd_T38 x3_1 x4_1).f7)) := hcc11 7 _ rfl
    have hf11_0 : w9.frozen? ⟨go11, (x4_1 : Int).toNat * 8, none⟩ = false := hfr11 0
    have hf11_1 : w9.frozen? ⟨go11, (x4_1 : Int).toNat * 8 + 1, none⟩ = false := hfr11 1
    have hf11_2 : w9.frozen? ⟨go11, (x4_1 : Int).toNat * 8 + 2, none⟩ = false := hfr11 2
    have hf11_3 : w9.frozen? ⟨go11, (x4_1 : Int).toNat * 8 + 3, none⟩ = false := hfr11 3
    have hf11_4 : w9.frozen? ⟨go11, (x4_1 : Int).toNat * 8 + 4, none⟩ = false := hfr11 4
    have hf11_5 : w9.frozen? ⟨go11, (x4_1 : Int).toNat * 8 + 5, none⟩ = false := hfr11 5
    have hf11_6 : w9.frozen? ⟨go11, (x4_1 : Int).toNat * 8 + 6, none⟩ = false := hfr11 6
    have hf11_7 : w9.frozen? ⟨go11, (x4_1 : Int).toNat * 8 + 7, none⟩ = false := hfr11 7
    clear hcl11 hcc11 hfr11 hM11
    replace p11 := eq_true p11
    replace q11 := eq_true q11
    have n_ := Aside0.mk (Kd.S_mono (ok' := (fun k_ => some k_ ≠ (v357 : Value).ownBlock ∧ some k_ ≠ (v360 : Value).ownBlock ∧ some k_ ≠ (v363 : Value).ownBlock)) HO_3.out (fun k_ hk => ⟨hk.1.1.2, ⟨hk.1.2, hk.2⟩⟩))
    clear HO_3
    have HO_3 := n_
    clear n_
    have HX12 := Aside0.mk (show Kd.R k38 38 w9 w.heap.size (fun _ => True) (.slice (some ⟨go11, 0, none⟩) x3_1.length co11) x3_1 from (by (with_reducible repeat (first|apply rA|apply rN|apply rD|apply Kd.S_alloc|apply Kd.S_drewN|apply Kd.S_drew)); exact Kd.R_mono (kD_toR HO_3.out) (fun _ hk => trivial)))
    obtain ⟨ce12, hcl12, hM12, hcc12, hfr12⟩ := Kd.R_elem HX12.out z38 (x4_1 : Int) (odt) (by have h_ : (x4_1 : Int) < ((x3_1.length : Int) : Int) := odt; first | exact h_ | (have e_ := (Kd.R_reads' (kD_toR HO_3.out)).1; omega) | simpa using h_)
    obtain ⟨ve12_4, ve12_5, ve12_6, rfl, ge12_4, ge12_5, ge12_6⟩ := k38_openM hM12
    have HP12 := kD_put8 HN_.out.2.2.2.2 HN_.out.1 (x4_1 : Int) odt (by have h_ : (x4_1 : Int) < ((x3_1.length : Int) : Int) := odt; exact h_) (⟨t352, t353, t354, t355, t356, t359, t362, t365⟩ : S38) HN_.out.2.1 HN_.out.2.2.1 HN_.out.2.2.2.1
    have hx12_0 := hcc12 0 _ rfl
    (try simp only [show (k38).sz = 8 from rfl, Nat.mul_one, Nat.add_zero] at hx12_0)
    have hf12_0 := hfr12 0
    (try simp only [show (k38).sz = 8 from rfl, Nat.mul_one, Nat.add_zero] at hf12_0)
    have hx12_1 := hcc12 1 _ rfl
    (try simp only [show (k38).sz = 8 from rfl, Nat.mul_one, Nat.add_zero] at hx12_1)
    have hf12_1 := hfr12 1
    (try simp only [show (k38).sz = 8 from rfl, Nat.mul_one, Nat.add_zero] at hf12_1)
    have hx12_2 := hcc12 2 _ rfl
    (try simp only [show (k38).sz = 8 from rfl, Nat.mul_one, Nat.add_zero] at hx12_2)
    have hf12_2 := hfr12 2
    (try simp only [show (k38).sz = 8 from rfl, Nat.mul_one, Nat.add_zero] at hf12_2)
    have hx12_3 := hcc12 3 _ rfl
    (try simp only [show (k38).sz = 8 from rfl, Nat.mul_one, Nat.add_zero] at hx12_3)
    have hf12_3 := hfr12 3
    (try simp only [show (k38).sz = 8 from rfl, Nat.mul_one, Nat.add_zero] at hf12_3)
    have hx12_4 := hcc12 4 _ rfl
    (try simp only [show (k38).sz = 8 from rfl, Nat.mul_one, Nat.add_zero] at hx12_4)
    have hf12_4 := hfr12 4
    (try simp only [show (k38).sz = 8 from rfl, Nat.mul_one, Nat.add_zero] at hf12_4)
    have hx12_5 := hcc12 5 _ rfl
    (try simp only [show (k38).sz = 8 from rfl, Nat.mul_one, Nat.add_zero] at hx12_5)
    have hf12_5 := hfr12 5
    (try simp only [show (k38).sz = 8 from rfl, Nat.mul_one, Nat.add_zero] at hf12_5)
    have hx12_6 := hcc12 6 _ rfl
    (try simp only [show (k38).sz = 8 from rfl, Nat.mul_one, Nat.add_zero] at hx12_6)
    have hf12_6 := hfr12 6
    (try simp only [show (k38).sz = 8 from rfl, Nat.mul_one, Nat.add_zero] at hf12_6)
    have hx12_7 := hcc12 7 _ rfl
    (try simp only [show (k38).sz = 8 from rfl, Nat.mul_one, Nat.add_zero] at hx12_7)
    have hf12_7 := hfr12 7
    (try simp only [show (k38).sz = 8 from rfl, Nat.mul_one, Nat.add_zero] at hf12_7)
    clear hcl12 hcc12 hfr12 hM12
    go_wp2_with (first | ((with_reducible refine gate_store (t := 38) (p := 21) rfl ?_); refine store_event (t := 38) (p := 21) (v := ?vo_w13) (w1 := ((((((((w9.setCell ⟨go11, (x4_1 : Int).toNat * 8, none⟩ (.int .i64 t352)).setCell ⟨go11, (x4_1 : Int).toNat * 8 + 1, none⟩ (.string t353)).setCell ⟨go11, (x4_1 : Int).toNat * 8 + 2, none⟩ (.string t354)).setCell ⟨go11, (x4_1 : Int).toNat * 8 + 3, none⟩ (.string t355)).setCell ⟨go11, (x4_1 : Int).toNat * 8 + 4, none⟩ (v357)).setCell ⟨go11, (x4_1 : Int).toNat * 8 + 5, none⟩ (v360)).setCell ⟨go11, (x4_1 : Int).toNat * 8 + 6, none⟩ (v363)).setCell ⟨go11, (x4_1 : Int).toNat * 8 + 7, none⟩ (.string t365))) ?hg ?ho ?hn ?hr ?_; (case ho => rfl); (case hg => rfl); (case hn => rfl); (case hr => ((try (obtain ⟨a_, c_, e_⟩ := Kd.R_slice HO358.out; subst e_)); (try (obtain ⟨a_, c_, e_⟩ := Kd.R_slice HO361.out; subst e_)); (try (obtain ⟨a_, c_, e_⟩ := Kd.S_slice HO364.out; subst e_)); first | (go_simp; done) | (go_simp; rfl))); intro w13 hw; have hg : w9.grownBy w13 (some go11) := (by rw [hw]; exact HP12.2); have hp_ : Kd.S kD 38 w13 w.heap.size (fun _ => True) (.slice (some ⟨go11, 0, none⟩) x3_1.length co11) y366 := (by rw [hw, Ny366.out]; exact HP12.1); clear HP12; replace HO_3 := Aside0.mk (hp_); replace HB := Aside0.mk ((by rw [hw]; exact below_set (below_set (below_set (below_set (below_set (below_set (below_set (below_set (HB.out) GB11.out) GB11.out) GB11.out) GB11.out) GB11.out) GB11.out) GB11.out) GB11.out : Below w.heap.size w w13)); clear HO358; clear HO361; clear HO364; clear hg hw hp_))
    go_roundg k1
    case measure => have := HK1.out; omega
    case rel => exact ⟨(y366), (wrap64 (x4_1 + 1)), rG, H', ⟨by have := HK1.out; omega⟩, ⟨by (with_reducible repeat (first|apply rA|apply rN|apply rD|apply Kd.S_alloc|apply Kd.S_drewN|apply Kd.S_drew)); exact HO_3.out⟩, ⟨hB⟩⟩
   ·rw [if_neg c6] at H
    have c6b0 : decide (x4_1 < (l0.length : Int)) = false := decide_eq_false c6
    clear c6
    obtain rfl := Option.some.inj H
    go_wp2
    go_ret
    exact ⟨_, rE, by (with_reducible repeat (first|apply rA|apply rN|apply rD|apply Kd.S_alloc|apply Kd.S_drewN|apply Kd.S_drew)); exact HO_3.out, hB⟩
def laws_toNode.f (k : Nat) (a0_0 : Int) (a0_1 : ByteArray) (a0_2 : ByteArray) (a0_3 : ByteArray) (l0_4 : List (S76)) (l0_5 : List (S78)) (l0_6 : List (S26)) (a0_7 : ByteArray) : Option (Int × ByteArray × ByteArray × ByteArray × (List (S89)) × (List (S64)) × (List (S38)) × ByteArray) := laws_toNode.F (laws_toNodeS.f k) k a0_0 a0_1 a0_2 a0_3 l0_4 l0_5 l0_6 a0_7
theorem laws_toNode.callsD (k : Nat) (a0_0 : Int) (a0_1 : ByteArray) (a0_2 : ByteArray) (a0_3 : ByteArray) (A0_4 : Option Addr) (c0_4 : Nat) (l0_4 : List (S76)) (A0_5 : Option Addr) (c0_5 : Nat) (l0_5 : List (S78)) (A0_6 : Option Addr) (c0_6 : Nat) (l0_6 : List (S26)) (a0_7 : ByteArray) (r1 : Int) (r2 : ByteArray) (r3 : ByteArray) (r4 : ByteArray) (r5 : List (S89)) (r6 : List (S64)) (r7 : List (S38)) (r8 : ByteArray) (w : World) (hr0_4 : Kd.C k76 w A0_4 l0_4.length l0_4) (hc0_4 : l0_4.length ≤ c0_4) (hr0_5 : Kd.C k78 w A0_5 l0_5.length l0_5) (hc0_5 : l0_5.length ≤ c0_5) (hr0_6 : Kd.C k26 w A0_6 l0_6.length l0_6) (hc0_6 : l0_6.length ≤ c0_6) (h : laws_toNode.f k a0_0 a0_1 a0_2 a0_3 l0_4 l0_5 l0_6 a0_7 = some (r1, r2, r3, r4, r5, r6, r7, r8)) :
  Calls Tryd.prog 7 #[.agg #[.int .i64 a0_0, .string a0_1, .string a0_2, .string a0_3, .slice A0_4 l0_4.length c0_4, .slice A0_5 l0_5.length c0_5, .slice A0_6 l0_6.length c0_6, .string a0_7]] w fun e w' => ∃ v4_ v5_ v6_ : Value, e = .returned (.agg #[.int .i64 r1, .string r2, .string r3, .string r4, v4_, v5_, v6_, .string r8]) ∧ Kd.R k89 89 w' w.heap.size (fun _ => True) v4_ r5 ∧ Kd.R k64 64 w' w.heap.size (fun _ => True) v5_ r6 ∧ Kd.S kD 38 w' w.heap.size (fun k_ => some k_ ≠ (v4_ : Value).ownBlock ∧ some k_ ≠ (v5_ : Value).ownBlock) v6_ r7 ∧ Below w.heap.size w w' := laws_toNode.callsF (laws_toNodeS.f k) (laws_toNodeS.callsD k) k a0_0 a0_1 a0_2 a0_3 A0_4 c0_4 l0_4 A0_5 c0_5 l0_5 A0_6 c0_6 l0_6 a0_7 r1 r2 r3 r4 r5 r6 r7 r8 w hr0_4 hc0_4 hr0_5 hc0_5 hr0_6 hc0_6 h
theorem laws_toNodeS.calls (k : Nat) : ∀ (A0 : Option Addr) (c0 : Nat) (l0 : List (S26)) (r : List (S38)) (w : World) (hr0 : Kd.C k26 w A0 l0.length l0) (hc0 : l0.length ≤ c0) (h : laws_toNodeS.f k l0 = some r),
  Calls Tryd.prog 25 #[.slice A0 l0.length c0] w fun e w' => ∃ v0_ : Value, e = .returned (v0_) ∧ Kd.R k38 38 w' w.heap.size (fun _ => True) v0_ r ∧ Below w.heap.size w w' := by
  intro A0 c0 l0 r w hr0 hc0 h
  refine (laws_toNodeS.callsD k A0 c0 l0 r w hr0 hc0 h).mono ?_
  rintro e w' ⟨v, rfl, h1, h2⟩
  exact ⟨v, rfl, kD_toR h1, h2⟩
theorem laws_toNode.calls (k : Nat) (a0_0 : Int) (a0_1 : ByteArray) (a0_2 : ByteArray) (a0_3 : ByteArray) (A0_4 : Option Addr) (c0_4 : Nat) (l0_4 : List (S76)) (A0_5 : Option Addr) (c0_5 : Nat) (l0_5 : List (S78)) (A0_6 : Option Addr) (c0_6 : Nat) (l0_6 : List (S26)) (a0_7 : ByteArray) (r1 : Int) (r2 : ByteArray) (r3 : ByteArray) (r4 : ByteArray) (r5 : List (S89)) (r6 : List (S64)) (r7 : List (S38)) (r8 : ByteArray) (w : World) (hr0_4 : Kd.C k76 w A0_4 l0_4.length l0_4) (hc0_4 : l0_4.length ≤ c0_4) (hr0_5 : Kd.C k78 w A0_5 l0_5.length l0_5) (hc0_5 : l0_5.length ≤ c0_5) (hr0_6 : Kd.C k26 w A0_6 l0_6.length l0_6) (hc0_6 : l0_6.length ≤ c0_6) (h : laws_toNode.f k a0_0 a0_1 a0_2 a0_3 l0_4 l0_5 l0_6 a0_7 = some (r1, r2, r3, r4, r5, r6, r7, r8)) :
  Calls Tryd.prog 7 #[.agg #[.int .i64 a0_0, .string a0_1, .string a0_2, .string a0_3, .slice A0_4 l0_4.length c0_4, .slice A0_5 l0_5.length c0_5, .slice A0_6 l0_6.length c0_6, .string a0_7]] w fun e w' => ∃ v4_ v5_ v6_ : Value, e = .returned (.agg #[.int .i64 r1, .string r2, .string r3, .string r4, v4_, v5_, v6_, .string r8]) ∧ Kd.R k89 89 w' w.heap.size (fun _ => True) v4_ r5 ∧ Kd.R k64 64 w' w.heap.size (fun _ => True) v5_ r6 ∧ Kd.R k38 38 w' w.heap.size (fun k_ => some k_ ≠ (v4_ : Value).ownBlock ∧ some k_ ≠ (v5_ : Value).ownBlock) v6_ r7 ∧ Below w.heap.size w w' := by
  refine (laws_toNode.callsD k a0_0 a0_1 a0_2 a0_3 A0_4 c0_4 l0_4 A0_5 c0_5 l0_5 A0_6 c0_6 l0_6 a0_7 r1 r2 r3 r4 r5 r6 r7 r8 w hr0_4 hc0_4 hr0_5 hc0_5 hr0_6 hc0_6 h).mono ?_
  rintro e w' ⟨v4, v5, v6, rfl, h1, h2, h3, h4⟩
  exact ⟨v4, v5, v6, rfl, h1, h2, kD_toR h3, h4⟩

/-! ### laws_markNodeS: function 35 -/
def laws_markNodeS.node (G : List S38 → Int → Option (Int × List S38)) (k : Nat) (x : S38) (a : Int) : Option (Int × S38) :=
  (laws_markText.f k (wrap64 (a + 1))).bind fun t1 => (laws_markText.f k (wrap64 ((wrap64 (a + 1)) + 1))).bind fun t2 => (laws_markText.f k (wrap64 ((wrap64 ((wrap64 (a + 1)) + 1)) + 1))).bind fun t3 => (laws_markDeclS.f k x.f4 (wrap64 ((wrap64 ((wrap64 ((wrap64 (a + 1)) + 1)) + 1)) + 1))).bind fun d => (laws_markAttrS.f k x.f5 d.1).bind fun t => (G x.f6 t.1).bind fun c => (laws_markText.f k c.1).bind fun t7 => some (wrap64 (c.1 + 1), ⟨a, t1, t2, t3, d.2, t.2, c.2, t7⟩)
def laws_markNodeS.go (G : List S38 → Int → Option (Int × List S38)) (k : Nat) : List S38 → Int → Option (Int × List S38)
  | [], a => some (a, [])
  | x :: xs, a => (laws_markNodeS.node G k x a).bind fun p => (laws_markNodeS.go G k xs p.1).bind fun q => some (q.1, p.2 :: q.2)
def laws_markNodeS.f : Nat → List S38 → Int → Option (Int × List S38)
  | 0, _, _ => none
  | k + 1, xs, a => if xs.length < 4611686018427387904 then laws_markNodeS.go (laws_markNodeS.f k) k xs a else none
set_option maxRecDepth 100000 in
set_option maxHeartbeats 4000000 in
theorem laws_markNodeS.calls (k : Nat) : ∀ (P : Nat → Prop) (u : Value) (l0 : List S38) (a1 r1 : Int) (r2 : List S38) (w0 w : World) (hB : Below w0.heap.size w0 w) (ho : Kd.S kD 38 w w0.heap.size P u l0) (h : laws_markNodeS.f k l0 a1 = some (r1, r2)),
    Calls Tryd.prog 35 #[u, .int .i64 a1] w fun e w' => e = .returned (.int .i64 r1) ∧ Kd.S kD 38 w' w0.heap.size P u r2 ∧ Below w0.heap.size w0 w' ∧ Kept w w' P := by
  induction k with
  | zero => intro P u l0 a1 r1 r2 w0 w hB ho h; exact absurd h (by simp [laws_markNodeS.f])
  | succ k ih =>
  intro P u l0 a1 r1 r2 w0 w hB ho h
  simp only [laws_markNodeS.f] at h
  obtain ⟨hz, h⟩ := if_som h
  have IH := Aside0.mk ih
  obtain ⟨A, c, rfl, -, -⟩ := Kd.S_reads ho
  have HS := Aside0.mk ho
  have HB := Aside0.mk hB
  have HH := Aside0.mk h
  clear ih hB ho h
  go_enter Tryd.func35, Tryd.ntmps35
  go_wp2
  go_loopg [1, 5] l0.length (fun gg s1 s5 wr => ∃ (ys zs : List S38) (a : Int) (q : List S38), ys.length + zs.length = l0.length ∧ zs.length ≤ gg ∧ s1 = .int .i64 a ∧ s5 = .int .i64 (ys.length : Int) ∧ Aside0 (laws_markNodeS.go (laws_markNodeS.f k) k zs a = some (r1, q)) ∧ Aside0 (r2 = ys ++ q) ∧ Aside0 (Kd.S kD 38 wr w0.heap.size P (.slice A l0.length c) (ys ++ zs)) ∧ Aside0 (Below w0.heap.size w0 wr) ∧ Aside0 (Kept w wr P))
  case atStart => exact ⟨[], l0, a1, r2, by simp, Nat.le_refl _, rfl, rfl, HH, ⟨rfl⟩, ⟨HS.out⟩, ⟨HB.out⟩, ⟨Kept.refl _ _⟩⟩
  case round =>
    clear HH HS HB
    obtain ⟨ys, zs, a, q, hlen, hg, rfl, rfl, HH, HQ, HS, HB, HK⟩ := hrel
    cases zs with
    | nil =>
      have hlt : ¬ (ys.length : Int) < (l0.length : Int) := by simp at hlen; omega
      obtain ⟨rfl, rfl⟩ : a = r1 ∧ q = [] := by have := HH.out; simp only [laws_markNodeS.go, Option.some.injEq, Prod.mk.injEq] at this; exact ⟨this.1, this.2.symm⟩
      rw [List.append_nil] at HS HQ
      obtain rfl := HQ.out
      go_wp2
      go_ret
      exact ⟨rfl, HS.out, HB.out, HK.out⟩
    | cons x zs =>
      rw [List.length_cons] at hlen hg
      have hlt : (ys.length : Int) < (l0.length : Int) := by omega
      have hl0 : (0 : Int) ≤ (ys.length : Int) := by omega
      have HL := Aside0.mk (show ys.length < l0.length by omega)
      obtain ⟨f0, f1, f2, f3, f4, f5, f6, f7⟩ := x
      obtain ⟨p, hp1, h2⟩ := Option.bind_eq_some_iff.1 (show (laws_markNodeS.node (laws_markNodeS.f k) k ⟨f0, f1, f2, f3, f4, f5, f6, f7⟩ a).bind _ = some (r1, q) from HH.out)
      obtain ⟨q', hq, h3⟩ := Option.bind_eq_some_iff.1 h2
      simp only [Option.some.injEq, Prod.mk.injEq] at h3
      obtain ⟨h31, rfl⟩ := h3
      obtain ⟨t1, ht1, hp2⟩ := Option.bind_eq_some_iff.1 hp1
      obtain ⟨t2, ht2, hp3⟩ := Option.bind_eq_some_iff.1 hp2
      obtain ⟨t3, ht3, hp4⟩ := Option.bind_eq_some_iff.1 hp3
      obtain ⟨⟨d1, d2⟩, hd, hp5⟩ := Option.bind_eq_some_iff.1 hp4
      obtain ⟨⟨e1, e2⟩, ht, hp6⟩ := Option.bind_eq_some_iff.1 hp5
      obtain ⟨⟨c1, c2⟩, hcc, hp7⟩ := Option.bind_eq_some_iff.1 hp6
      obtain ⟨t7, ht7, hp8⟩ := Option.bind_eq_some_iff.1 hp7
      clear hp1 hp2 hp3 hp4 hp5 hp6 hp7
      cases hp8
      have T1 := Aside0.mk ht1
      have T2 := Aside0.mk ht2
      have T3 := Aside0.mk ht3
      have T7 := Aside0.mk ht7
      have TD := Aside0.mk hd
      have TT := Aside0.mk ht
      have TC := Aside0.mk hcc
      have HR := Aside0.mk (show laws_markNodeS.go (laws_markNodeS.f k) k zs (wrap64 (c1 + 1)) = some (r1, q'.2) by rw [← h31]; exact hq)
      clear HH h2 hq h31 ht1 ht2 ht3 ht7 hd ht hcc
      obtain ⟨g, cap, eg, hg0, -, -⟩ := Kd.S_form HS.out (by simp; omega)
      injection eg with eA eN eC
      subst eA
      have HG := Aside0.mk hg0
      have HP0 := Aside0.mk ((Kd.S_R HS.out).1 g rfl)
      have HLEN := Aside0.mk (And.intro hlen hg)
      clear hg0 eC eN hlen hg
      obtain ⟨oki, v4, v5, v6, o6, hc, hf, hD, hk, hH⟩ := kD_elem HS.out
      have hx := hc 0 _ rfl
      have hy := hf 0
      have HP := Aside0.mk (kD_put hH hD hk HL.out 0 (.int .i64 a) rfl (by decide) ⟨a, f1, f2, f3, f4, f5, f6, f7⟩ rfl rfl rfl rfl)
      rw [Nat.add_zero] at hx hy HP
      clear hc hf hD hk hH
      go_wp2_with (first
        | ((with_reducible refine gate_store (t := 3) (p := 16) rfl ?_); refine store_event (t := 3) (p := 16) (v := ?vo_wr) (w1 := (wr.setCell ⟨g, ys.length * 8, none⟩ (.int .i64 a))) ?hg ?ho ?hn ?hr ?_; (case ho => rfl); (case hg => rfl); (case hn => rfl); (case hr => first | (go_simp; done) | (go_simp; rfl)); intro wrx hw; replace HS := Aside0.mk (show Kd.S kD 38 wrx _ _ _ _ by rw [hw]; exact HP.out.1); replace HB := Aside0.mk (show Below w0.heap.size w0 wrx by rw [hw]; exact below_set HB.out HG.out); replace HK := Aside0.mk (Kept.of_grown (show wr.grownBy wrx (some g) by rw [hw]; exact HP.out.2) HK.out (fun k_ e_ => .inl (by injection e_ with e_; exact e_ ▸ HP0.out))); clear HP hx hy hw)
        | (go_at_call 38; (with_reducible refine (laws_markText.calls k (wrap64 (a + 1)) t1 _ T1.out).mono ?_); rintro e wb ⟨rfl, hb⟩; replace HS := Aside0.mk (Kd.S_below HS.out hb); replace HK := Aside0.mk (Kept.below HK.out hb); replace HB := Aside0.mk (below_step HB.out hb); clear hb; obtain ⟨oki, v4, v5, v6, o6, hc, hf, hD, hk, hH⟩ := kD_elem HS.out; have hx := hc 1 _ rfl; have hy := hf 1; have HP := Aside0.mk (kD_put hH hD hk HL.out 1 (.string t1) rfl (by decide) ⟨a, t1, f2, f3, f4, f5, f6, f7⟩ rfl rfl rfl rfl); clear hc hf hD hk hH)
        | ((with_reducible refine gate_store (t := 9) (p := 24) rfl ?_); refine store_event (t := 9) (p := 24) (v := ?vo_wb) (w1 := (wb.setCell ⟨g, ys.length * 8 + 1, none⟩ (.string t1))) ?hg ?ho ?hn ?hr ?_; (case ho => rfl); (case hg => rfl); (case hn => rfl); (case hr => first | (go_simp; done) | (go_simp; rfl)); intro wbx hw; replace HS := Aside0.mk (show Kd.S kD 38 wbx _ _ _ _ by rw [hw]; exact HP.out.1); replace HB := Aside0.mk (show Below w0.heap.size w0 wbx by rw [hw]; exact below_set HB.out HG.out); replace HK := Aside0.mk (Kept.of_grown (show wb.grownBy wbx (some g) by rw [hw]; exact HP.out.2) HK.out (fun k_ e_ => .inl (by injection e_ with e_; exact e_ ▸ HP0.out))); clear HP hx hy hw)
        | (go_at_call 38; (with_reducible refine (laws_markText.calls k (wrap64 ((wrap64 (a + 1)) + 1)) t2 _ T2.out).mono ?_); rintro e wc ⟨rfl, hb⟩; replace HS := Aside0.mk (Kd.S_below HS.out hb); replace HK := Aside0.mk (Kept.below HK.out hb); replace HB := Aside0.mk (below_step HB.out hb); clear hb; obtain ⟨oki, v4, v5, v6, o6, hc, hf, hD, hk, hH⟩ := kD_elem HS.out; have hx := hc 2 _ rfl; have hy := hf 2; have HP := Aside0.mk (kD_put hH hD hk HL.out 2 (.string t2) rfl (by decide) ⟨a, t1, t2, f3, f4, f5, f6, f7⟩ rfl rfl rfl rfl); clear hc hf hD hk hH)
        | ((with_reducible refine gate_store (t := 9) (p := 32) rfl ?_); refine store_event (t := 9) (p := 32) (v := ?vo_wc) (w1 := (wc.setCell ⟨g, ys.length * 8 + 2, none⟩ (.string t2))) ?hg ?ho ?hn ?hr ?_; (case ho => rfl); (case hg => rfl); (case hn => rfl); (case hr => first | (go_simp; done) | (go_simp; rfl)); intro wcx hw; replace HS := Aside0.mk (show Kd.S kD 38 wcx _ _ _ _ by rw [hw]; exact HP.out.1); replace HB := Aside0.mk (show Below w0.heap.size w0 wcx by rw [hw]; exact below_set HB.out HG.out); replace HK := Aside0.mk (Kept.of_grown (show wc.grownBy wcx (some g) by rw [hw]; exact HP.out.2) HK.out (fun k_ e_ => .inl (by injection e_ with e_; exact e_ ▸ HP0.out))); clear HP hx hy hw)
        | (go_at_call 38; (with_reducible refine (laws_markText.calls k (wrap64 ((wrap64 ((wrap64 (a + 1)) + 1)) + 1)) t3 _ T3.out).mono ?_); rintro e wd ⟨rfl, hb⟩; replace HS := Aside0.mk (Kd.S_below HS.out hb); replace HK := Aside0.mk (Kept.below HK.out hb); replace HB := Aside0.mk (below_step HB.out hb); clear hb; obtain ⟨oki, v4, v5, v6, o6, hc, hf, hD, hk, hH⟩ := kD_elem HS.out; have hx := hc 3 _ rfl; have hy := hf 3; have HP := Aside0.mk (kD_put hH hD hk HL.out 3 (.string t3) rfl (by decide) ⟨a, t1, t2, t3, f4, f5, f6, f7⟩ rfl rfl rfl rfl); clear hc hf hD hk hH)
        | ((with_reducible refine gate_store (t := 9) (p := 40) rfl ?_); refine store_event (t := 9) (p := 40) (v := ?vo_wd) (w1 := (wd.setCell ⟨g, ys.length * 8 + 3, none⟩ (.string t3))) ?hg ?ho ?hn ?hr ?_; (case ho => rfl); (case hg => rfl); (case hn => rfl); (case hr => first | (go_simp; done) | (go_simp; rfl)); intro wdx hw; replace HS := Aside0.mk (show Kd.S kD 38 wdx _ _ _ _ by rw [hw]; exact HP.out.1); replace HB := Aside0.mk (show Below w0.heap.size w0 wdx by rw [hw]; exact below_set HB.out HG.out); replace HK := Aside0.mk (Kept.of_grown (show wd.grownBy wdx (some g) by rw [hw]; exact HP.out.2) HK.out (fun k_ e_ => .inl (by injection e_ with e_; exact e_ ▸ HP0.out))); clear HP hx hy hw; obtain ⟨oki, v4, v5, v6, o6, hc, -, hD, hk, hH⟩ := kD_elem HS.out; have hx := hc 4 _ rfl; have HE := Aside0.mk (And.intro hH (And.intro hD hk)); clear hc hD hk hH)
        | (go_at_call 34; (with_reducible refine (laws_markDeclS.calls k (fun k_ => some k_ = v4.ownBlock) v4 f4 (wrap64 ((wrap64 ((wrap64 ((wrap64 (a + 1)) + 1)) + 1)) + 1)) d1 d2 w0 _ HB.out HE.out.2.1.1 TD.out).mono ?_); rintro e wf ⟨rfl, hR, hb, hkp⟩; replace HK := Aside0.mk (Kept.then_ HK.out hkp (fun k_ h_ => .inl (HE.out.2.2 k_ (HE.out.2.1.2.2.2.1 k_ h_)).1)); replace HS := Aside0.mk (kD_in4 HE.out.1 HE.out.2.1 hkp hR); replace HB := Aside0.mk hb; clear hx HE hkp hR hb; obtain ⟨oki, v4, v5, v6, o6, hc, -, hD, hk, hH⟩ := kD_elem HS.out; have hx := hc 5 _ rfl; have HE := Aside0.mk (And.intro hH (And.intro hD hk)); clear hc hD hk hH)
        | (go_at_call 15; (with_reducible refine (laws_markAttrS.calls k (fun k_ => some k_ = v5.ownBlock) v5 f5 d1 e1 e2 w0 _ HB.out HE.out.2.1.2.1 TT.out).mono ?_); rintro e wg ⟨rfl, hR, hb, hkp⟩; replace HK := Aside0.mk (Kept.then_ HK.out hkp (fun k_ h_ => .inl (HE.out.2.2 k_ (HE.out.2.1.2.2.2.2.1 k_ h_)).1)); replace HS := Aside0.mk (kD_in5 HE.out.1 HE.out.2.1 hkp hR); replace HB := Aside0.mk hb; clear hx HE hkp hR hb; obtain ⟨oki, v4, v5, v6, o6, hc, -, hD, hk, hH⟩ := kD_elem HS.out; have hx := hc 6 _ rfl; have HE := Aside0.mk (And.intro hH (And.intro hD hk)); clear hc hD hk hH)
        | (go_at_call 35; (with_reducible refine (IH.out o6 v6 f6 e1 c1 c2 w0 _ HB.out HE.out.2.1.2.2.1 TC.out).mono ?_); rintro e wh ⟨rfl, hR, hb, hkp⟩; replace HK := Aside0.mk (Kept.then_ HK.out hkp (fun k_ h_ => .inl (HE.out.2.2 k_ (HE.out.2.1.2.2.2.2.2 k_ h_).1).1)); replace HS := Aside0.mk (kD_in6 HE.out.1 HE.out.2.1 hkp hR); replace HB := Aside0.mk hb; clear hx HE hkp hR hb)
        | (go_at_call 38; (with_reducible refine (laws_markText.calls k (c1) t7 _ T7.out).mono ?_); rintro e wi ⟨rfl, hb⟩; replace HS := Aside0.mk (Kd.S_below HS.out hb); replace HK := Aside0.mk (Kept.below HK.out hb); replace HB := Aside0.mk (below_step HB.out hb); clear hb; obtain ⟨oki, v4, v5, v6, o6, hc, hf, hD, hk, hH⟩ := kD_elem HS.out; have hx := hc 7 _ rfl; have hy := hf 7; have HP := Aside0.mk (kD_put hH hD hk HL.out 7 (.string t7) rfl (by decide) ⟨a, t1, t2, t3, d2, e2, c2, t7⟩ rfl rfl rfl rfl); clear hc hf hD hk hH)
        | ((with_reducible refine gate_store (t := 9) (p := 69) rfl ?_); refine store_event (t := 9) (p := 69) (v := ?vo_wi) (w1 := (wi.setCell ⟨g, ys.length * 8 + 7, none⟩ (.string t7))) ?hg ?ho ?hn ?hr ?_; (case ho => rfl); (case hg => rfl); (case hn => rfl); (case hr => first | (go_simp; done) | (go_simp; rfl)); intro wix hw; replace HS := Aside0.mk (show Kd.S kD 38 wix _ _ _ _ by rw [hw]; exact HP.out.1); replace HB := Aside0.mk (show Below w0.heap.size w0 wix by rw [hw]; exact below_set HB.out HG.out); replace HK := Aside0.mk (Kept.of_grown (show wi.grownBy wix (some g) by rw [hw]; exact HP.out.2) HK.out (fun k_ e_ => .inl (by injection e_ with e_; exact e_ ▸ HP0.out))); clear HP hx hy hw))
      go_roundg zs.length
      case measure => have := HLEN.out; omega
      case rel => (have hl_ := HLEN.out); exact ⟨ys ++ [⟨a, t1, t2, t3, d2, e2, c2, t7⟩], zs, wrap64 (c1 + 1), q'.2, by simp; omega, Nat.le_refl _, rfl, by rw [List.length_append, List.length_singleton]; go_num, HR, ⟨by rw [HQ.out]; simp⟩, ⟨by rw [List.append_assoc]; exact HS.out⟩, ⟨HB.out⟩, ⟨HK.out⟩⟩

/-! ### laws_markNode: function 13 -/
def laws_markNode.g (k : Nat) (x : S38) (a : Int) : Option (Int × S38) :=
  (laws_markDeclS.f k x.f4 a).bind fun d => (laws_markAttrS.f k x.f5 d.1).bind fun t => (laws_markNodeS.f k x.f6 t.1).bind fun c => some (c.1, ⟨x.f0, x.f1, x.f2, x.f3, d.2, t.2, c.2, x.f7⟩)
def laws_markNode.f (k : Nat) (a0_0 : Int) (a0_1 a0_2 a0_3 : ByteArray) (l0_4 : List S89) (l0_5 : List S64) (l0_6 : List S38) (a0_7 : ByteArray) (a1 : Int) : Option Int :=
  (laws_markNode.g k ⟨a0_0, a0_1, a0_2, a0_3, l0_4, l0_5, l0_6, a0_7⟩ a1).map (·.1)
set_option maxRecDepth 100000 in
set_option maxHeartbeats 1000000 in
theorem laws_markNode.calls (k : Nat) (P : Nat → Prop) (x : S38) (v4 v5 v6 : Value) (o6 : Nat → Prop) (a1 r1 : Int) (x2 : S38) (w0 w : World) (hB : Below w0.heap.size w0 w) (hD : DN kD w w0.heap.size P x v4 v5 v6 o6) (h : laws_markNode.g k x a1 = some (r1, x2)) :
    Calls Tryd.prog 13 #[.agg #[.int .i64 x.f0, .string x.f1, .string x.f2, .string x.f3, v4, v5, v6, .string x.f7], .int .i64 a1] w fun e w' => e = .returned (.int .i64 r1) ∧ DN kD w' w0.heap.size P x2 v4 v5 v6 o6 ∧ Below w0.heap.size w0 w' ∧ Kept w w' (fun k => some k = v4.ownBlock ∨ some k = v5.ownBlock ∨ o6 k) := by
  obtain ⟨f0, f1, f2, f3, f4, f5, f6, f7⟩ := x
  obtain ⟨h4, h5, h6, a4, a5, a6⟩ := hD
  obtain ⟨⟨d1, d2⟩, hd, h1⟩ := Option.bind_eq_some_iff.1 h
  obtain ⟨⟨e1, e2⟩, ht, h2⟩ := Option.bind_eq_some_iff.1 h1
  obtain ⟨⟨c1, c2⟩, hc, h3⟩ := Option.bind_eq_some_iff.1 h2
  clear h h1 h2
  cases h3
  have TD := Aside0.mk hd
  have TT := Aside0.mk ht
  have TC := Aside0.mk hc
  have HA := Aside0.mk (And.intro a4 (And.intro a5 a6))
  have hu := Tryd.underlying38
  have n45 : ∀ W : World, Kd.R k89 89 W w0.heap.size (fun k => some k = v4.ownBlock) v4 f4 → Kd.R k64 64 W w0.heap.size (fun k => some k = v5.ownBlock) v5 f5 → ∀ k, some k = v5.ownBlock → ¬ some k = v4.ownBlock := fun W q4 q5 k k5 k4 => by
    obtain ⟨z1, y1⟩ := Kd.R_typed q4 k k4.symm
    obtain ⟨z2, y2⟩ := Kd.R_typed q5 k k5.symm
    rw [y1] at y2
    cases y2
  have hne := n45 w h4 h5
  have HN := Aside0.mk hne
  obtain ⟨A4, c4, e4⟩ := Kd.R_slice h4
  obtain ⟨A5, c5, e5⟩ := Kd.R_slice h5
  obtain ⟨A6, c6, e6⟩ := Kd.S_slice h6
  have hW := And.intro h4 (And.intro h5 (Kd.S_mono (Kd.S_bound h6) (ok' := fun k => o6 k ∧ k < w.heap.size) (fun k hk => ⟨hk.1, hk.2.2.1⟩)))
  have HW := Aside0.mk hW
  have HB := Aside0.mk hB
  clear hW hB h4 h5 h6 a4 a5 a6 hd ht hc hne n45
  dsimp only at TD TT TC HW ⊢
  generalize hl4 : f4.length = n4 at e4
  generalize hl5 : f5.length = n5 at e5
  generalize hl6 : f6.length = n6 at e6
  clear hl4 hl5 hl6
  subst e4 e5 e6
  go_enter Tryd.func13, Tryd.ntmps13
  go_wp2_with (first
    | ((with_reducible refine gate_dst (N := 2) rfl ?_); refine box_event ?hg (N := 2) ?hd (cs := #[.int .i64 f0, .string f1, .string f2, .string f3, .slice A4 n4 c4, .slice A5 n5 c5, .slice A6 n6 c6, .string f7]) (t := 38) ?hr ?_; (case hd => rfl); (case hg => rfl); (case hr => first | (go_simp; done) | (go_simp; rfl)); intro gb hg wb hbox hb; have BK := Aside0.mk hbox; have H4 := Aside0.mk (Kd.R_below HW.out.1 hb); have H5 := Aside0.mk (Kd.R_below HW.out.2.1 hb); have H6 := Aside0.mk (Kd.S_below HW.out.2.2 hb); have HK := Aside0.mk (Kept.of_below hb (fun k => some k = (Value.slice A4 n4 c4).ownBlock ∨ some k = (Value.slice A5 n5 c5).ownBlock ∨ o6 k)); have HE := Aside0.mk (And.intro (show ∀ k, some k = (Value.slice A4 n4 c4).ownBlock → k ≠ gb from fun k h_ => by have := Kd.R_lt HW.out.1 k h_.symm; omega) (And.intro (show ∀ k, some k = (Value.slice A5 n5 c5).ownBlock → k ≠ gb from fun k h_ => by have := Kd.R_lt HW.out.2.1 k h_.symm; omega) (show ∀ k, k < w.heap.size → k ≠ gb from fun k h_ => by omega))); replace HB := Aside0.mk (below_step HB.out hb); clear hg hbox hb HW; obtain ⟨hz0, hz1, hz2, hz3, hz4, hz5, hz6, hz7⟩ := bc8 BK.out)
    | (go_at_call 34; ((with_reducible refine (laws_markDeclS.calls k (fun k_ => some k_ = (Value.slice A4 n4 c4).ownBlock) (.slice A4 n4 c4) f4 a1 d1 d2 w0 _ HB.out H4.out TD.out).mono ?_); rintro e w1 ⟨rfl, hR, hb, hkp⟩; replace H4 := Aside0.mk (Kd.R_tight rfl hR); replace H5 := Aside0.mk (Kd.R_kept H5.out hkp (fun k_ => HN.out k_)); replace H6 := Aside0.mk (Kd.S_kept H6.out hkp (fun k_ h_ => (HA.out.2.2 k_ h_.1).2.1)); replace HK := Aside0.mk (Kept.then_ HK.out hkp (fun k_ h_ => .inl (.inl h_))); replace BK := Aside0.mk (blk_kept BK.out hkp (fun h_ => absurd rfl (HE.out.1 gb h_))); replace HB := Aside0.mk hb; clear hR hb hkp; obtain ⟨hz0, hz1, hz2, hz3, hz4, hz5, hz6, hz7⟩ := bc8 BK.out))
    | (go_at_call 15; ((with_reducible refine (laws_markAttrS.calls k (fun k_ => some k_ = (Value.slice A5 n5 c5).ownBlock) (.slice A5 n5 c5) f5 d1 e1 e2 w0 _ HB.out H5.out TT.out).mono ?_); rintro e w2 ⟨rfl, hR, hb, hkp⟩; replace H5 := Aside0.mk (Kd.R_tight rfl hR); replace H4 := Aside0.mk (Kd.R_kept H4.out hkp (fun k_ h4_ h5_ => HN.out k_ h5_ h4_)); replace H6 := Aside0.mk (Kd.S_kept H6.out hkp (fun k_ h_ => (HA.out.2.2 k_ h_.1).2.2)); replace HK := Aside0.mk (Kept.then_ HK.out hkp (fun k_ h_ => .inl (.inr (.inl h_)))); replace BK := Aside0.mk (blk_kept BK.out hkp (fun h_ => absurd rfl (HE.out.2.1 gb h_))); replace HB := Aside0.mk hb; clear hR hb hkp; obtain ⟨hz0, hz1, hz2, hz3, hz4, hz5, hz6, hz7⟩ := bc8 BK.out))
    | (go_at_call 35; ((with_reducible refine (laws_markNodeS.calls k (fun k => o6 k ∧ k < w.heap.size) (.slice A6 n6 c6) f6 e1 c1 c2 w0 _ HB.out H6.out TC.out).mono ?_); rintro e w3 ⟨rfl, hR, hb, hkp⟩; replace H6 := Aside0.mk hR; replace H4 := Aside0.mk (Kd.R_kept H4.out hkp (fun k_ h4_ h6_ => (HA.out.2.2 k_ h6_.1).2.1 h4_)); replace H5 := Aside0.mk (Kd.R_kept H5.out hkp (fun k_ h5_ h6_ => (HA.out.2.2 k_ h6_.1).2.2 h5_)); replace HK := Aside0.mk (Kept.then_ HK.out hkp (fun k_ h_ => .inl (.inr (.inr h_.1)))); replace HB := Aside0.mk hb; clear hR hb hkp)))
  go_ret
  exact ⟨rfl, ⟨H4.out, H5.out, Kd.S_mono H6.out (fun k h_ => h_.1), HA.out.1, HA.out.2.1, HA.out.2.2⟩, HB.out, HK.out⟩
theorem laws_markNode.calls8 (k : Nat) (P : Nat → Prop) (f0 : Int) (f1 f2 f3 : ByteArray) (f4 : List S89) (f5 : List S64) (f6 : List S38) (f7 : ByteArray) (v4 v5 v6 : Value) (o6 : Nat → Prop) (a1 r1 : Int) (x2 : S38) (w0 w : World) (hB : Below w0.heap.size w0 w) (hD : DN kD w w0.heap.size P ⟨f0, f1, f2, f3, f4, f5, f6, f7⟩ v4 v5 v6 o6) (h : laws_markNode.g k ⟨f0, f1, f2, f3, f4, f5, f6, f7⟩ a1 = some (r1, x2)) :
    Calls Tryd.prog 13 #[.agg #[.int .i64 f0, .string f1, .string f2, .string f3, v4, v5, v6, .string f7], .int .i64 a1] w fun e w' => e = .returned (.int .i64 r1) ∧ DN kD w' w0.heap.size P x2 v4 v5 v6 o6 ∧ Below w0.heap.size w0 w' ∧ Kept w w' (fun k => some k = v4.ownBlock ∨ some k = v5.ownBlock ∨ o6 k) :=
  laws_markNode.calls k P ⟨f0, f1, f2, f3, f4, f5, f6, f7⟩ v4 v5 v6 o6 a1 r1 x2 w0 w hB hD h

/-! ### laws_markEntS: function 36 -/
def laws_markEntS.l0 : Nat → List (S92) → Int → Int → Option (Int × (List (S92)))
 | 0, _, _, _ => none
 | k + 1, x0, x1, x5 => if x5 < (x0.length : Int) then ((laws_markText.f k x1).bind fun t367 => (if 0 ≤ x5 then ((some (x0.set (x5 : Int).toNat (⟨t367, (rd_T92 x0 x5).f1⟩ : S92) : List (S92))).bind fun y368 => ((laws_markText.f k (wrap64 (x1 + 1))).bind fun t369 => (laws_markEntS.l0 k (y368.set (x5 : Int).toNat (⟨(rd_T92 y368 x5).f0, t369⟩ : S92)) (wrap64 ((wrap64 (x1 + 1)) + 1)) (wrap64 (x5 + 1))))) else (none))) else (some (x1, x0))
def laws_markEntS.f (k : Nat) (l0 : List (S92)) (a1 : Int) : Option (Int × (List (S92))) := laws_markEntS.l0 k l0 a1 0
theorem laws_markEntS.calls (k : Nat) (P0_ : Nat → Prop) (u9000_ : Value) (l0 : List (S92)) (a1 : Int) (r1 : Int) (r2 : List (S92)) (w0 w : World) (hB : Below w0.heap.size w0 w) (ho0 : Kd.R k92 92 w w0.heap.size P0_ u9000_ l0) (h : laws_markEntS.f k l0 a1 = some (r1, r2)) :
  Calls Tryd.prog 36 #[u9000_, .int .i64 a1] w fun e w' => e = .returned (.int .i64 r1) ∧ Kd.R k92 92 w' w0.heap.size (fun k_ => (P0_ k_ ∨ w.heap.size ≤ k_)) u9000_ r2 ∧ Below w0.heap.size w0 w' ∧ Kept w w' (fun k_ => P0_ k_) := by
 have HO0 := Aside0.mk (show Kd.R k92 92 w w0.heap.size (fun k_ => (P0_ k_ ∨ w.heap.size ≤ k_)) u9000_ l0 from Kd.R_mono ho0 (fun k_ hk => (.inl hk)))
 have HK := Aside0.mk (Kept.refl w (fun k_ => P0_ k_))
 have HW0 := Aside0.mk hB.size
 have HB := Aside0.mk hB
 clear hB
 have H : (laws_markEntS.l0 k l0 a1 0) = some (r1, r2) := h
 clear h
 have H' := Aside0.mk H
 clear H
 go_enter Tryd.func36, Tryd.ntmps36
 go_wp2
 go_loopg [1, 5] k (fun kq v1 v5 w' => ∃ (x0_1 : List (S92)) (x1_1 : Int) (x5_1 : Int), v1 = .int .i64 x1_1 ∧ v5 = .int .i64 x5_1 ∧ Aside0 (laws_markEntS.l0 kq x0_1 x1_1 x5_1 = some (r1, r2)) ∧ Aside0 (kq ≤ k) ∧ Aside0 (Kd.R k92 92 w' w0.heap.size (fun k_ => (P0_ k_ ∨ w.heap.size ≤ k_)) u9000_ x0_1) ∧ Aside0 (Kept w w' (fun k_ => P0_ k_)) ∧ Aside0 (Below w0.heap.size w0 w'))
 case atStart => exact ⟨(l0), (a1), (0), rG, rG, H', ⟨Nat.le_refl _⟩, ⟨by (with_reducible repeat (first|apply rA|apply rN|apply rD)); exact HO0.out⟩, ⟨by repeat (first|(with_reducible first|exact HK.out | apply Kept.alloc | apply Kept.drewN | apply Kept.drew) | exact HK.out)⟩, ⟨hB⟩⟩
 case round =>
  clear H'
  obtain ⟨x0_1, x1_1, x5_1, rfl, rfl, HA, HK1, HO_0, HK, HB⟩ := hrel
  cases gk with
  | zero => exact absurd HA.out (by simp [laws_markEntS.l0])
  | succ k1 =>
   have H := HA.out
   clear HA
   simp only [laws_markEntS.l0] at H
   by_cases c3 : x5_1 < (x0_1.length : Int)
   ·rw [if_pos c3] at H
    have c3b0 : decide (x5_1 < (x0_1.length : Int)) = true := decide_eq_true c3
    clear c3
    replace H := Option.bind_eq_some_iff.mp H
    obtain ⟨t367, A40, H⟩ := H
    try dsimp only at H
    have A4 := Aside0.mk A40
    clear A40
    obtain ⟨Ao5, co5, eo5⟩ := Kd.R_slice HO_0.out
    subst eo5
    go_wp2_with (first | ((with_reducible refine gate_callee (f := 38) rfl ?_); refine goesL_ (some 15) rfl rfl Tryd.func38 (by kernel_rfl) rfl #[.int .i64 x1_1] rfl mA ?_; (with_reducible refine (laws_markText.calls k1 x1_1 t367 _ A4.out).mono ?_); rintro e w6 ⟨rfl, hb⟩; refine ⟨_, rfl, ?_⟩; replace HO_0 := Aside0.mk (Kd.R_below (by (with_reducible repeat (first|apply rA|apply rN|apply rD)); exact HO_0.out) hb); replace HK := Aside0.mk (Kept.below (S := (fun k_ => P0_ k_)) (by repeat (first|(with_reducible first|exact HK.out | apply Kept.alloc | apply Kept.drewN | apply Kept.drew) | exact HK.out)) hb); replace HB := Aside0.mk (below_step hB hb); (try clear hb); (try clear hb2); (try clear hk); (try clear hi); refine halt_ ?_; intro q_ hq_))
    obtain ⟨rfl⟩ := hq_
    obtain ⟨c7, H⟩ := if_som H
    have c7b0 : decide (0 ≤ x5_1) = true := decide_eq_true c7
    clear c7
    obtain ⟨y368, hy368⟩ : ∃ y_ : List (S92), y_ = (x0_1.set (x5_1 : Int).toNat (⟨t367, (rd_T92 x0_1 x5_1).f1⟩ : S92)) := ⟨_, rfl⟩
    replace H : ((laws_markText.f k1 (wrap64 (x1_1 + 1))).bind fun t369 => (laws_markEntS.l0 k1 (y368.set (x5_1 : Int).toNat (⟨(rd_T92 y368 x5_1).f0, t369⟩ : S92)) (wrap64 ((wrap64 (x1_1 + 1)) + 1)) (wrap64 (x5_1 + 1)))) = some (r1, r2) := by first | (rw [hy368]; with_reducible exact H) | (have H2_ := (Option.bind_some _ _).symm.trans H; rw [hy368]; with_reducible exact H2_) | (have H2_ := (Option.bind_some _ _).symm.trans H; with_reducible exact H2_) | with_reducible exact H | (rw [hy368]; exact H) | exact H
    have Ny368 := Aside0.mk hy368
    clear hy368
    replace H := Option.bind_eq_some_iff.mp H
    obtain ⟨t369, A90, H⟩ := H
    try dsimp only at H
    have A9 := Aside0.mk A90
    clear A90
    obtain ⟨y370, hy370⟩ : ∃ y_ : List (S92), y_ = (y368.set (x5_1 : Int).toNat (⟨(rd_T92 y368 x5_1).f0, t369⟩ : S92)) := ⟨_, rfl⟩
    replace H : (laws_markEntS.l0 k1 y370 (wrap64 ((wrap64 (x1_1 + 1)) + 1)) (wrap64 (x5_1 + 1))) = some (r1, r2) := by first | (rw [hy370]; with_reducible exact H) | (have H2_ := (Option.bind_some _ _).symm.trans H; rw [hy370]; with_reducible exact H2_) | (have H2_ := (Option.bind_some _ _).symm.trans H; with_reducible exact H2_) | with_reducible exact H | (rw [hy370]; exact H) | exact H
    have Ny370 := Aside0.mk hy370
    clear hy370
    have H' := Aside0.mk H
    clear H
    have p8 : 0 ≤ (x5_1 : Int) := odt
    have q8 : (x5_1 : Int) < ((x0_1.length : Int) : Int) := odt
    obtain ⟨go8, co8, eo8, gb8, gl8, cl8, HG8⟩ := Kd.R_form HO_0.out (by omega)
    (first | cases eo8 | (injection eo8 with ea_ en_ ec_; (first | subst ea_ | (injection ea_ with ea_; subst ea_)); subst ec_; clear en_))
    have GB8 := Aside0.mk gb8
    have GG8 := Aside0.mk HG8
    clear gb8 gl8 HG8
    have HMgo8 := Aside0.mk (show (P0_ go8 ∨ w.heap.size ≤ go8) from (HO_0.out.1 _ rfl))
    obtain ⟨ce8, hcl8, hM8, hcc8, hfr8⟩ := Kd.R_elem HO_0.out z92 (x5_1 : Int) p8 q8
    obtain rfl := k92_openM hM8
    have hx8_0 : w6.cell? ⟨go8, (x5_1 : Int).toNat * 2, none⟩ = some (.string ((rd_T92 x0_1 x5_1).f0)) := hcc8 0 _ rfl
    have hx8_1 : w6.cell? ⟨go8, (x5_1 : Int).toNat * 2 + 1, none⟩ = some (.string ((rd_T92 x0_1 x5_1).f1)) := hcc8 1 _ rfl
    have hf8_0 : w6.frozen? ⟨go8, (x5_1 : Int).toNat * 2, none⟩ = false := hfr8 0
    have hf8_1 : w6.frozen? ⟨go8, (x5_1 : Int).toNat * 2 + 1, none⟩ = false := hfr8 1
    clear hcl8 hcc8 hfr8 hM8
    replace p8 := eq_true p8
    replace q8 := eq_true q8
    have HX11 := Aside0.mk (show Kd.R k92 92 w6 w0.heap.size (fun k_ => (P0_ k_ ∨ w.heap.size ≤ k_)) (.slice (some ⟨go8, 0, none⟩) x0_1.length co5) x0_1 from (by (with_reducible repeat (first|apply rA|apply rN|apply rD)); exact HO_0.out))
    obtain ⟨ce11, hcl11, hM11, hcc11, hfr11⟩ := Kd.R_elem HX11.out z92 (x5_1 : Int) (odt) (by have h_ : (x5_1 : Int) < ((x0_1.length : Int) : Int) := odt; first | exact h_ | (have e_ := (Kd.R_reads' HO_0.out).1; omega) | simpa using h_)
    obtain rfl := k92_openM hM11
    have HP11 := Kd.R_seg HX11.out (x5_1 : Int) (odt) (by have h_ : (x5_1 : Int) < ((x0_1.length : Int) : Int) := odt; first | exact h_ | (have e_ := (Kd.R_reads' HO_0.out).1; omega) | simpa using h_) (seg := [.string t367]) (j := 0) hcl11 hcc11 (show 1 ≤ 2 from by decide) (x' := (⟨t367, (rd_T92 x0_1 x5_1).f1⟩ : S92)) (k92_mkM _ _ _ (⟨t367, (rd_T92 x0_1 x5_1).f1⟩ : S92) ) (fun _ hk => hk)
    have hx11_0 := hcc11 0 _ rfl
    (try simp only [show (k92).sz = 2 from rfl, Nat.mul_one, Nat.add_zero] at hx11_0)
    have hf11_0 := hfr11 0
    (try simp only [show (k92).sz = 2 from rfl, Nat.mul_one, Nat.add_zero] at hf11_0)
    clear hcl11 hcc11 hfr11 hM11
    go_wp2_with (first | ((with_reducible refine gate_store (t := 9) (p := 17) rfl ?_); refine store_event (t := 9) (p := 17) (v := ?vo_w12) (w1 := (w6.setCell ⟨go8, (x5_1 : Int).toNat * 2, none⟩ (.string t367))) ?hg ?ho ?hn ?hr ?_; (case ho => rfl); (case hg => rfl); (case hn => rfl); (case hr => first | (go_simp; done) | (go_simp; rfl)); intro w12 hw; have hg : w6.grownBy w12 (some go8) := (by rw [hw]; exact HP11.2); have hp_ : Kd.R k92 92 w12 w0.heap.size (fun k_ => (P0_ k_ ∨ w.heap.size ≤ k_)) (.slice (some ⟨go8, 0, none⟩) x0_1.length co5) y368 := (by rw [hw, Ny368.out]; exact HP11.1); clear HP11; replace HB := Aside0.mk ((by rw [hw]; exact below_set (HB.out) GB8.out : Below w0.heap.size w0 w12)); replace HK := Aside0.mk (Kept.of_grown (S := (fun k_ => P0_ k_)) hg (by repeat (first|(with_reducible first|exact HK.out | apply Kept.alloc | apply Kept.drewN | apply Kept.drew) | exact HK.out)) (fun k_ e_ => (HO_0.out.1 k_ e_))); replace HO_0 := Aside0.mk (hp_); clear hg hw hp_) | ((with_reducible refine gate_callee (f := 38) rfl ?_); refine goesL_ (some 23) rfl rfl Tryd.func38 (by kernel_rfl) rfl #[.int .i64 (wrap64 (x1_1 + 1))] rfl mA ?_; (with_reducible refine (laws_markText.calls k1 (wrap64 (x1_1 + 1)) t369 _ A9.out).mono ?_); rintro e w13 ⟨rfl, hb⟩; refine ⟨_, rfl, ?_⟩; replace HO_0 := Aside0.mk (Kd.R_below (by (with_reducible repeat (first|apply rA|apply rN|apply rD)); exact HO_0.out) hb); replace HK := Aside0.mk (Kept.below (S := (fun k_ => P0_ k_)) (by repeat (first|(with_reducible first|exact HK.out | apply Kept.alloc | apply Kept.drewN | apply Kept.drew) | exact HK.out)) hb); replace HB := Aside0.mk (below_step hB hb); (try clear hb); (try clear hb2); (try clear hk); (try clear hi); have p10 : 0 ≤ (x5_1 : Int) := odt; have q10 : (x5_1 : Int) < ((x0_1.length : Int) : Int) := odt; obtain ⟨ce10, hcl10, hM10, hcc10, hfr10⟩ := Kd.R_elem HO_0.out z92 (x5_1 : Int) p10 q10; obtain rfl := k92_openM hM10; have hx10_0 : w13.cell? ⟨go8, (x5_1 : Int).toNat * 2, none⟩ = some (.string ((rd_T92 y368 x5_1).f0)) := hcc10 0 _ rfl; have hx10_1 : w13.cell? ⟨go8, (x5_1 : Int).toNat * 2 + 1, none⟩ = some (.string ((rd_T92 y368 x5_1).f1)) := hcc10 1 _ rfl; have hf10_0 : w13.frozen? ⟨go8, (x5_1 : Int).toNat * 2, none⟩ = false := hfr10 0; have hf10_1 : w13.frozen? ⟨go8, (x5_1 : Int).toNat * 2 + 1, none⟩ = false := hfr10 1; clear hcl10 hcc10 hfr10 hM10; replace p10 := eq_true p10; replace q10 := eq_true q10; have HX14 := Aside0.mk (show Kd.R k92 92 w13 w0.heap.size (fun k_ => (P0_ k_ ∨ w.heap.size ≤ k_)) (.slice (some ⟨go8, 0, none⟩) x0_1.length co5) y368 from (by (with_reducible repeat (first|apply rA|apply rN|apply rD)); exact HO_0.out)); obtain ⟨ce14, hcl14, hM14, hcc14, hfr14⟩ := Kd.R_elem HX14.out z92 (x5_1 : Int) (odt) (by have h_ : (x5_1 : Int) < ((x0_1.length : Int) : Int) := odt; first | exact h_ | (have e_ := (Kd.R_reads' HO_0.out).1; omega) | simpa using h_); obtain rfl := k92_openM hM14; have HP14 := Kd.R_seg HX14.out (x5_1 : Int) (odt) (by have h_ : (x5_1 : Int) < ((x0_1.length : Int) : Int) := odt; first | exact h_ | (have e_ := (Kd.R_reads' HO_0.out).1; omega) | simpa using h_) (seg := [.string t369]) (j := 1) hcl14 hcc14 (show 2 ≤ 2 from by decide) (x' := (⟨(rd_T92 y368 x5_1).f0, t369⟩ : S92)) (k92_mkM _ _ _ (⟨(rd_T92 y368 x5_1).f0, t369⟩ : S92) ) (fun _ hk => hk); have hx14_1 := hcc14 1 _ rfl; (try simp only [show (k92).sz = 2 from rfl, Nat.mul_one, Nat.add_zero] at hx14_1); have hf14_1 := hfr14 1; (try simp only [show (k92).sz = 2 from rfl, Nat.mul_one, Nat.add_zero] at hf14_1); clear hcl14 hcc14 hfr14 hM14) | ((with_reducible refine gate_store (t := 9) (p := 25) rfl ?_); refine store_event (t := 9) (p := 25) (v := ?vo_w15) (w1 := (w13.setCell ⟨go8, (x5_1 : Int).toNat * 2 + 1, none⟩ (.string t369))) ?hg ?ho ?hn ?hr ?_; (case ho => rfl); (case hg => rfl); (case hn => rfl); (case hr => first | (go_simp; done) | (go_simp; rfl)); intro w15 hw; have hg : w13.grownBy w15 (some go8) := (by rw [hw]; exact HP14.2); have hp_ : Kd.R k92 92 w15 w0.heap.size (fun k_ => (P0_ k_ ∨ w.heap.size ≤ k_)) (.slice (some ⟨go8, 0, none⟩) x0_1.length co5) y370 := (by rw [hw, Ny370.out]; exact HP14.1); clear HP14; replace HB := Aside0.mk ((by rw [hw]; exact below_set (HB.out) GB8.out : Below w0.heap.size w0 w15)); replace HK := Aside0.mk (Kept.of_grown (S := (fun k_ => P0_ k_)) hg (by repeat (first|(with_reducible first|exact HK.out | apply Kept.alloc | apply Kept.drewN | apply Kept.drew) | exact HK.out)) (fun k_ e_ => (HO_0.out.1 k_ e_))); replace HO_0 := Aside0.mk (hp_); clear hg hw hp_))
    go_roundg k1
    case measure => have := HK1.out; omega
    case rel => exact ⟨(y370), (wrap64 ((wrap64 (x1_1 + 1)) + 1)), (wrap64 (x5_1 + 1)), rG, rG, H', ⟨by have := HK1.out; omega⟩, ⟨by (with_reducible repeat (first|apply rA|apply rN|apply rD)); exact HO_0.out⟩, ⟨by repeat (first|(with_reducible first|exact HK.out | apply Kept.alloc | apply Kept.drewN | apply Kept.drew) | exact HK.out)⟩, ⟨hB⟩⟩
   ·rw [if_neg c3] at H
    have c3b0 : decide (x5_1 < (x0_1.length : Int)) = false := decide_eq_false c3
    clear c3
    simp only [Option.some.injEq, Prod.mk.injEq] at H
    obtain ⟨rfl, rfl⟩ := H
    obtain ⟨Ao16, co16, eo16⟩ := Kd.R_slice HO_0.out
    subst eo16
    go_wp2
    go_ret
    exact ⟨rE, by (with_reducible repeat (first|apply rA|apply rN|apply rD)); exact HO_0.out, hB, by repeat (first|(with_reducible first|exact HK.out | apply Kept.alloc | apply Kept.drewN | apply Kept.drew) | exact HK.out)⟩

/-! ### laws_markDefS: function 37 -/
def laws_markDefS.l0 : Nat → List (S85) → Int → Int → Option (Int × (List (S85)))
 | 0, _, _, _ => none
 | k + 1, x0, x1, x5 => if x5 < (x0.length : Int) then ((laws_markText.f k x1).bind fun t371 => (if 0 ≤ x5 then ((some (x0.set (x5 : Int).toNat (⟨t371, (rd_T85 x0 x5).f1, (rd_T85 x0 x5).f2, (rd_T85 x0 x5).f3, (rd_T85 x0 x5).f4⟩ : S85) : List (S85))).bind fun y372 => ((laws_markText.f k (wrap64 (x1 + 1))).bind fun t373 => ((some (y372.set (x5 : Int).toNat (⟨(rd_T85 y372 x5).f0, t373, (rd_T85 y372 x5).f2, (rd_T85 y372 x5).f3, (rd_T85 y372 x5).f4⟩ : S85) : List (S85))).bind fun y374 => ((some (y374.set (x5 : Int).toNat (⟨(rd_T85 y374 x5).f0, (rd_T85 y374 x5).f1, ((Int.tmod (wrap64 ((wrap64 (x1 + 1)) + 1)) 3) == 0), (rd_T85 y374 x5).f3, (rd_T85 y374 x5).f4⟩ : S85) : List (S85))).bind fun y375 => ((some (y375.set (x5 : Int).toNat (⟨(rd_T85 y375 x5).f0, (rd_T85 y375 x5).f1, (rd_T85 y375 x5).f2, ((Int.tmod (wrap64 ((wrap64 ((wrap64 (x1 + 1)) + 1)) + 1)) 3) == 0), (rd_T85 y375 x5).f4⟩ : S85) : List (S85))).bind fun y376 => ((laws_markText.f k (wrap64 ((wrap64 ((wrap64 ((wrap64 (x1 + 1)) + 1)) + 1)) + 1))).bind fun t377 => (laws_markDefS.l0 k (y376.set (x5 : Int).toNat (⟨(rd_T85 y376 x5).f0, (rd_T85 y376 x5).f1, (rd_T85 y376 x5).f2, (rd_T85 y376 x5).f3, t377⟩ : S85)) (wrap64 ((wrap64 ((wrap64 ((wrap64 ((wrap64 (x1 + 1)) + 1)) + 1)) + 1)) + 1)) (wrap64 (x5 + 1))))))))) else (none))) else (some (x1, x0))
def laws_markDefS.f (k : Nat) (l0 : List (S85)) (a1 : Int) : Option (Int × (List (S85))) := laws_markDefS.l0 k l0 a1 0
theorem laws_markDefS.calls (k : Nat) (P0_ : Nat → Prop) (u9000_ : Value) (l0 : List (S85)) (a1 : Int) (r1 : Int) (r2 : List (S85)) (w0 w : World) (hB : Below w0.heap.size w0 w) (ho0 : Kd.R k85 85 w w0.heap.size P0_ u9000_ l0) (h : laws_markDefS.f k l0 a1 = some (r1, r2)) :
  Calls Tryd.prog 37 #[u9000_, .int .i64 a1] w fun e w' => e = .returned (.int .i64 r1) ∧ Kd.R k85 85 w' w0.heap.size (fun k_ => (P0_ k_ ∨ w.heap.size ≤ k_)) u9000_ r2 ∧ Below w0.heap.size w0 w' ∧ Kept w w' (fun k_ => P0_ k_) := by
 have HO0 := Aside0.mk (show Kd.R k85 85 w w0.heap.size (fun k_ => (P0_ k_ ∨ w.heap.size ≤ k_)) u9000_ l0 from Kd.R_mono ho0 (fun k_ hk => (.inl hk)))
 have HK := Aside0.mk (Kept.refl w (fun k_ => P0_ k_))
 have HW0 := Aside0.mk hB.size
 have HB := Aside0.mk hB
 clear hB
 have H : (laws_markDefS.l0 k l0 a1 0) = some (r1, r2) := h
 clear h
 have H' := Aside0.mk H
 clear H
 go_enter Tryd.func37, Tryd.ntmps37
 go_wp2
 go_loopg [1, 5] k (fun kq v1 v5 w' => ∃ (x0_1 : List (S85)) (x1_1 : Int) (x5_1 : Int), v1 = .int .i64 x1_1 ∧ v5 = .int .i64 x5_1 ∧ Aside0 (laws_markDefS.l0 kq x0_1 x1_1 x5_1 = some (r1, r2)) ∧ Aside0 (kq ≤ k) ∧ Aside0 (Kd.R k85 85 w' w0.heap.size (fun k_ => (P0_ k_ ∨ w.heap.size ≤ k_)) u9000_ x0_1) ∧ Aside0 (Kept w w' (fun k_ => P0_ k_)) ∧ Aside0 (Below w0.heap.size w0 w'))
 case atStart => exact ⟨(l0), (a1), (0), rG, rG, H', ⟨Nat.le_refl _⟩, ⟨by (with_reducible repeat (first|apply rA|apply rN|apply rD)); exact HO0.out⟩, ⟨by repeat (first|(with_reducible first|exact HK.out | apply Kept.alloc | apply Kept.drewN | apply Kept.drew) | exact HK.out)⟩, ⟨hB⟩⟩
 case round =>
  clear H'
  obtain ⟨x0_1, x1_1, x5_1, rfl, rfl, HA, HK1, HO_0, HK, HB⟩ := hrel
  cases gk with
  | zero => exact absurd HA.out (by simp [laws_markDefS.l0])
  | succ k1 =>
   have H := HA.out
   clear HA
   simp only [laws_markDefS.l0] at H
   by_cases c3 : x5_1 < (x0_1.length : Int)
   ·rw [if_pos c3] at H
    have c3b0 : decide (x5_1 < (x0_1.length : Int)) = true := decide_eq_true c3
    clear c3
    replace H := Option.bind_eq_some_iff.mp H
    obtain ⟨t371, A40, H⟩ := H
    try dsimp only at H
    have A4 := Aside0.mk A40
    clear A40
    obtain ⟨Ao5, co5, eo5⟩ := Kd.R_slice HO_0.out
    subst eo5
    go_wp2_with (first | ((with_reducible refine gate_callee (f := 38) rfl ?_); refine goesL_ (some 15) rfl rfl Tryd.func38 (by kernel_rfl) rfl #[.int .i64 x1_1] rfl mA ?_; (with_reducible refine (laws_markText.calls k1 x1_1 t371 _ A4.out).mono ?_); rintro e w6 ⟨rfl, hb⟩; refine ⟨_, rfl, ?_⟩; replace HO_0 := Aside0.mk (Kd.R_below (by (with_reducible repeat (first|apply rA|apply rN|apply rD)); exact HO_0.out) hb); replace HK := Aside0.mk (Kept.below (S := (fun k_ => P0_ k_)) (by repeat (first|(with_reducible first|exact HK.out | apply Kept.alloc | apply Kept.drewN | apply Kept.drew) | exact HK.out)) hb); replace HB := Aside0.mk (below_step hB hb); (try clear hb); (try clear hb2); (try clear hk); (try clear hi); refine halt_ ?_; intro q_ hq_))
    obtain ⟨rfl⟩ := hq_
    obtain ⟨c7, H⟩ := if_som H
    have c7b0 : decide (0 ≤ x5_1) = true := decide_eq_true c7
    clear c7
    obtain ⟨y372, hy372⟩ : ∃ y_ : List (S85), y_ = (x0_1.set (x5_1 : Int).toNat (⟨t371, (rd_T85 x0_1 x5_1).f1, (rd_T85 x0_1 x5_1).f2, (rd_T85 x0_1 x5_1).f3, (rd_T85 x0_1 x5_1).f4⟩ : S85)) := ⟨_, rfl⟩
    replace H : ((laws_markText.f k1 (wrap64 (x1_1 + 1))).bind fun t373 => ((some (y372.set (x5_1 : Int).toNat (⟨(rd_T85 y372 x5_1).f0, t373, (rd_T85 y372 x5_1).f2, (rd_T85 y372 x5_1).f3, (rd_T85 y372 x5_1).f4⟩ : S85) : List (S85))).bind fun y374 => ((some (y374.set (x5_1 : Int).toNat (⟨(rd_T85 y374 x5_1).f0, (rd_T85 y374 x5_1).f1, ((Int.tmod (wrap64 ((wrap64 (x1_1 + 1)) + 1)) 3) == 0), (rd_T85 y374 x5_1).f3, (rd_T85 y374 x5_1).f4⟩ : S85) : List (S85))).bind fun y375 => ((some (y375.set (x5_1 : Int).toNat (⟨(rd_T85 y375 x5_1).f0, (rd_T85 y375 x5_1).f1, (rd_T85 y375 x5_1).f2, ((Int.tmod (wrap64 ((wrap64 ((wrap64 (x1_1 + 1)) + 1)) + 1)) 3) == 0), (rd_T85 y375 x5_1).f4⟩ : S85) : List (S85))).bind fun y376 => ((laws_markText.f k1 (wrap64 ((wrap64 ((wrap64 ((wrap64 (x1_1 + 1)) + 1)) + 1)) + 1))).bind fun t377 => (laws_markDefS.l0 k1 (y376.set (x5_1 : Int).toNat (⟨(rd_T85 y376 x5_1).f0, (rd_T85 y376 x5_1).f1, (rd_T85 y376 x5_1).f2, (rd_T85 y376 x5_1).f3, t377⟩ : S85)) (wrap64 ((wrap64 ((wrap64 ((wrap64 ((wrap64 (x1_1 + 1)) + 1)) + 1)) + 1)) + 1)) (wrap64 (x5_1 + 1)))))))) = some (r1, r2) := by first | (rw [hy372]; with_reducible exact H) | (have H2_ := (Option.bind_some _ _).symm.trans H; rw [hy372]; with_reducible exact H2_) | (have H2_ := (Option.bind_some _ _).symm.trans H; with_reducible exact H2_) | with_reducible exact H | (rw [hy372]; exact H) | exact H
    have Ny372 := Aside0.mk hy372
    clear hy372
    replace H := Option.bind_eq_some_iff.mp H
    obtain ⟨t373, A90, H⟩ := H
    try dsimp only at H
    have A9 := Aside0.mk A90
    clear A90
    obtain ⟨y374, hy374⟩ : ∃ y_ : List (S85), y_ = (y372.set (x5_1 : Int).toNat (⟨(rd_T85 y372 x5_1).f0, t373, (rd_T85 y372 x5_1).f2, (rd_T85 y372 x5_1).f3, (rd_T85 y372 x5_1).f4⟩ : S85)) := ⟨_, rfl⟩
    replace H : ((some (y374.set (x5_1 : Int).toNat (⟨(rd_T85 y374 x5_1).f0, (rd_T85 y374 x5_1).f1, ((Int.tmod (wrap64 ((wrap64 (x1_1 + 1)) + 1)) 3) == 0), (rd_T85 y374 x5_1).f3, (rd_T85 y374 x5_1).f4⟩ : S85) : List (S85))).bind fun y375 => ((some (y375.set (x5_1 : Int).toNat (⟨(rd_T85 y375 x5_1).f0, (rd_T85 y375 x5_1).f1, (rd_T85 y375 x5_1).f2, ((Int.tmod (wrap64 ((wrap64 ((wrap64 (x1_1 + 1)) + 1)) + 1)) 3) == 0), (rd_T85 y375 x5_1).f4⟩ : S85) : List (S85))).bind fun y376 => ((laws_markText.f k1 (wrap64 ((wrap64 ((wrap64 ((wrap64 (x1_1 + 1)) + 1)) + 1)) + 1))).bind fun t377 => (laws_markDefS.l0 k1 (y376.set (x5_1 : Int).toNat (⟨(rd_T85 y376 x5_1).f0, (rd_T85 y376 x5_1).f1, (rd_T85 y376 x5_1).f2, (rd_T85 y376 x5_1).f3, t377⟩ : S85)) (wrap64 ((wrap64 ((wrap64 ((wrap64 ((wrap64 (x1_1 + 1)) + 1)) + 1)) + 1)) + 1)) (wrap64 (x5_1 + 1)))))) = some (r1, r2) := by first | (rw [hy374]; with_reducible exact H) | (have H2_ := (Option.bind_some _ _).symm.trans H; rw [hy374]; with_reducible exact H2_) | (have H2_ := (Option.bind_some _ _).symm.trans H; with_reducible exact H2_) | with_reducible exact H | (rw [hy374]; exact H) | exact H
    have Ny374 := Aside0.mk hy374
    clear hy374
    obtain ⟨y375, hy375⟩ : ∃ y_ : List (S85), y_ = (y374.set (x5_1 : Int).toNat (⟨(rd_T85 y374 x5_1).f0, (rd_T85 y374 x5_1).f1, ((Int.tmod (wrap64 ((wrap64 (x1_1 + 1)) + 1)) 3) == 0), (rd_T85 y374 x5_1).f3, (rd_T85 y374 x5_1).f4⟩ : S85)) := ⟨_, rfl⟩
    replace H : ((some (y375.set (x5_1 : Int).toNat (⟨(rd_T85 y375 x5_1).f0, (rd_T85 y375 x5_1).f1, (rd_T85 y375 x5_1).f2, ((Int.tmod (wrap64 ((wrap64 ((wrap64 (x1_1 + 1)) + 1)) + 1)) 3) == 0), (rd_T85 y375 x5_1).f4⟩ : S85) : List (S85))).bind fun y376 => ((laws_markText.f k1 (wrap64 ((wrap64 ((wrap64 ((wrap64 (x1_1 + 1)) + 1)) + 1)) + 1))).bind fun t377 => (laws_markDefS.l0 k1 (y376.set (x5_1 : Int).toNat (⟨(rd_T85 y376 x5_1).f0, (rd_T85 y376 x5_1).f1, (rd_T85 y376 x5_1).f2, (rd_T85 y376 x5_1).f3, t377⟩ : S85)) (wrap64 ((wrap64 ((wrap64 ((wrap64 ((wrap64 (x1_1 + 1)) + 1)) + 1)) + 1)) + 1)) (wrap64 (x5_1 + 1))))) = some (r1, r2) := by first | (rw [hy375]; with_reducible exact H) | (have H2_ := (Option.bind_some _ _).symm.trans H; rw [hy375]; with_reducible exact H2_) | (have H2_ := (Option.bind_some _ _).symm.trans H; with_reducible exact H2_) | with_reducible exact H | (rw [hy375]; exact H) | exact H
    have Ny375 := Aside0.mk hy375
    clear hy375
    obtain ⟨y376, hy376⟩ : ∃ y_ : List (S85), y_ = (y375.set (x5_1 : Int).toNat (⟨(rd_T85 y375 x5_1).f0, (rd_T85 y375 x5_1).f1, (rd_T85 y375 x5_1).f2, ((Int.tmod (wrap64 ((wrap64 ((wrap64 (x1_1 + 1)) + 1)) + 1)) 3) == 0), (rd_T85 y375 x5_1).f4⟩ : S85)) := ⟨_, rfl⟩
    replace H : ((laws_markText.f k1 (wrap64 ((wrap64 ((wrap64 ((wrap64 (x1_1 + 1)) + 1)) + 1)) + 1))).bind fun t377 => (laws_markDefS.l0 k1 (y376.set (x5_1 : Int).toNat (⟨(rd_T85 y376 x5_1).f0, (rd_T85 y376 x5_1).f1, (rd_T85 y376 x5_1).f2, (rd_T85 y376 x5_1).f3, t377⟩ : S85)) (wrap64 ((wrap64 ((wrap64 ((wrap64 ((wrap64 (x1_1 + 1)) + 1)) + 1)) + 1)) + 1)) (wrap64 (x5_1 + 1)))) = some (r1, r2) := by first | (rw [hy376]; with_reducible exact H) | (have H2_ := (Option.bind_some _ _).symm.trans H; rw [hy376]; with_reducible exact H2_) | (have H2_ := (Option.bind_some _ _).symm.trans H; with_reducible exact H2_) | with_reducible exact H | (rw [hy376]; exact H) | exact H
    have Ny376 := Aside0.mk hy376
    clear hy376
    replace H := Option.bind_eq_some_iff.mp H
    obtain ⟨t377, A130, H⟩ := H
    try dsimp only at H
    have A13 := Aside0.mk A130
    clear A130
    obtain ⟨y378, hy378⟩ : ∃ y_ : List (S85), y_ = (y376.set (x5_1 : Int).toNat (⟨(rd_T85 y376 x5_1).f0, (rd_T85 y376 x5_1).f1, (rd_T85 y376 x5_1).f2, (rd_T85 y376 x5_1).f3, t377⟩ : S85)) := ⟨_, rfl⟩
    replace H : (laws_markDefS.l0 k1 y378 (wrap64 ((wrap64 ((wrap64 ((wrap64 ((wrap64 (x1_1 + 1)) + 1)) + 1)) + 1)) + 1)) (wrap64 (x5_1 + 1))) = some (r1, r2) := by first | (rw [hy378]; with_reducible exact H) | (have H2_ := (Option.bind_some _ _).symm.trans H; rw [hy378]; with_reducible exact H2_) | (have H2_ := (Option.bind_some _ _).symm.trans H; with_reducible exact H2_) | with_reducible exact H | (rw [hy378]; exact H) | exact H
    have Ny378 := Aside0.mk hy378
    clear hy378
    have H' := Aside0.mk H
    clear H
    have p8 : 0 ≤ (x5_1 : Int) := odt
    have q8 : (x5_1 : Int) < ((x0_1.length : Int) : Int) := odt
    obtain ⟨go8, co8, eo8, gb8, gl8, cl8, HG8⟩ := Kd.R_form HO_0.out (by omega)
    (first | cases eo8 | (injection eo8 with ea_ en_ ec_; (first | subst ea_ | (injection ea_ with ea_; subst ea_)); subst ec_; clear en_))
    have GB8 := Aside0.mk gb8
    have GG8 := Aside0.mk HG8
    clear gb8 gl8 HG8
    have HMgo8 := Aside0.mk (show (P0_ go8 ∨ w.heap.size ≤ go8) from (HO_0.out.1 _ rfl))
    obtain ⟨ce8, hcl8, hM8, hcc8, hfr8⟩ := Kd.R_elem HO_0.out z85 (x5_1 : Int) p8 q8
    obtain rfl := k85_openM hM8
    have hx8_0 : w6.cell? ⟨go8, (x5_1 : Int).toNat * 5, none⟩ = some (.string ((rd_T85 x0_1 x5_1).f0)) := hcc8 0 _ rfl
    have hx8_1 : w6.cell? ⟨go8, (x5_1 : Int).toNat * 5 + 1, none⟩ = some (.string ((rd_T85 x0_1 x5_1).f1)) := hcc8 1 _ rfl
    have hx8_2 : w6.cell? ⟨go8, (x5_1 : Int).toNat * 5 + 2, none⟩ = some (.bool ((rd_T85 x0_1 x5_1).f2)) := hcc8 2 _ rfl
    have hx8_3 : w6.cell? ⟨go8, (x5_1 : Int).toNat * 5 + 3, none⟩ = some (.bool ((rd_T85 x0_1 x5_1).f3)) := hcc8 3 _ rfl
    have hx8_4 : w6.cell? ⟨go8, (x5_1 : Int).toNat * 5 + 4, none⟩ = some (.string ((rd_T85 x0_1 x5_1).f4)) := hcc8 4 _ rfl
    have hf8_0 : w6.frozen? ⟨go8, (x5_1 : Int).toNat * 5, none⟩ = false := hfr8 0
    have hf8_1 : w6.frozen? ⟨go8, (x5_1 : Int).toNat * 5 + 1, none⟩ = false := hfr8 1
    have hf8_2 : w6.frozen? ⟨go8, (x5_1 : Int).toNat * 5 + 2, none⟩ = false := hfr8 2
    have hf8_3 : w6.frozen? ⟨go8, (x5_1 : Int).toNat * 5 + 3, none⟩ = false := hfr8 3
    have hf8_4 : w6.frozen? ⟨go8, (x5_1 : Int).toNat * 5 + 4, none⟩ = false := hfr8 4
    clear hcl8 hcc8 hfr8 hM8
    replace p8 := eq_true p8
    replace q8 := eq_true q8
    have HX15 := Aside0.mk (show Kd.R k85 85 w6 w0.heap.size (fun k_ => (P0_ k_ ∨ w.heap.size ≤ k_)) (.slice (some ⟨go8, 0, none⟩) x0_1.length co5) x0_1 from (by (with_reducible repeat (first|apply rA|apply rN|apply rD)); exact HO_0.out))
    obtain ⟨ce15, hcl15, hM15, hcc15, hfr15⟩ := Kd.R_elem HX15.out z85 (x5_1 : Int) (odt) (by have h_ : (x5_1 : Int) < ((x0_1.length : Int) : Int) := odt; first | exact h_ | (have e_ := (Kd.R_reads' HO_0.out).1; omega) | simpa using h_)
    obtain rfl := k85_openM hM15
    have HP15 := Kd.R_seg HX15.out (x5_1 : Int) (odt) (by have h_ : (x5_1 : Int) < ((x0_1.length : Int) : Int) := odt; first | exact h_ | (have e_ := (Kd.R_reads' HO_0.out).1; omega) | simpa using h_) (seg := [.string t371]) (j := 0) hcl15 hcc15 (show 1 ≤ 5 from by decide) (x' := (⟨t371, (rd_T85 x0_1 x5_1).f1, (rd_T85 x0_1 x5_1).f2, (rd_T85 x0_1 x5_1).f3, (rd_T85 x0_1 x5_1).f4⟩ : S85)) (k85_mkM _ _ _ (⟨t371, (rd_T85 x0_1 x5_1).f1, (rd_T85 x0_1 x5_1).f2, (rd_T85 x0_1 x5_1).f3, (rd_T85 x0_1 x5_1).f4⟩ : S85) ) (fun _ hk => hk)
    have hx15_0 := hcc15 0 _ rfl
    (try simp only [show (k85).sz = 5 from rfl, Nat.mul_one, Nat.add_zero] at hx15_0)
    have hf15_0 := hfr15 0
    (try simp only [show (k85).sz = 5 from rfl, Nat.mul_one, Nat.add_zero] at hf15_0)
    clear hcl15 hcc15 hfr15 hM15
    go_wp2_with (first | ((with_reducible refine gate_store (t := 9) (p := 17) rfl ?_); refine store_event (t := 9) (p := 17) (v := ?vo_w16) (w1 := (w6.setCell ⟨go8, (x5_1 : Int).toNat * 5, none⟩ (.string t371))) ?hg ?ho ?hn ?hr ?_; (case ho => rfl); (case hg => rfl); (case hn => rfl); (case hr => first | (go_simp; done) | (go_simp; rfl)); intro w16 hw; have hg : w6.grownBy w16 (some go8) := (by rw [hw]; exact HP15.2); have hp_ : Kd.R k85 85 w16 w0.heap.size (fun k_ => (P0_ k_ ∨ w.heap.size ≤ k_)) (.slice (some ⟨go8, 0, none⟩) x0_1.length co5) y372 := (by rw [hw, Ny372.out]; exact HP15.1); clear HP15; replace HB := Aside0.mk ((by rw [hw]; exact below_set (HB.out) GB8.out : Below w0.heap.size w0 w16)); replace HK := Aside0.mk (Kept.of_grown (S := (fun k_ => P0_ k_)) hg (by repeat (first|(with_reducible first|exact HK.out | apply Kept.alloc | apply Kept.drewN | apply Kept.drew) | exact HK.out)) (fun k_ e_ => (HO_0.out.1 k_ e_))); replace HO_0 := Aside0.mk (hp_); clear hg hw hp_) | ((with_reducible refine gate_callee (f := 38) rfl ?_); refine goesL_ (some 23) rfl rfl Tryd.func38 (by kernel_rfl) rfl #[.int .i64 (wrap64 (x1_1 + 1))] rfl mA ?_; (with_reducible refine (laws_markText.calls k1 (wrap64 (x1_1 + 1)) t373 _ A9.out).mono ?_); rintro e w17 ⟨rfl, hb⟩; refine ⟨_, rfl, ?_⟩; replace HO_0 := Aside0.mk (Kd.R_below (by (with_reducible repeat (first|apply rA|apply rN|apply rD)); exact HO_0.out) hb); replace HK := Aside0.mk (Kept.below (S := (fun k_ => P0_ k_)) (by repeat (first|(with_reducible first|exact HK.out | apply Kept.alloc | apply Kept.drewN | apply Kept.drew) | exact HK.out)) hb); replace HB := Aside0.mk (below_step hB hb); (try clear hb); (try clear hb2); (try clear hk); (try clear hi); have p10 : 0 ≤ (x5_1 : Int) := odt; have q10 : (x5_1 : Int) < ((x0_1.length : Int) : Int) := odt; obtain ⟨ce10, hcl10, hM10, hcc10, hfr10⟩ := Kd.R_elem HO_0.out z85 (x5_1 : Int) p10 q10; obtain rfl := k85_openM hM10; have hx10_0 : w17.cell? ⟨go8, (x5_1 : Int).toNat * 5, none⟩ = some (.string ((rd_T85 y372 x5_1).f0)) := hcc10 0 _ rfl; have hx10_1 : w17.cell? ⟨go8, (x5_1 : Int).toNat * 5 + 1, none⟩ = some (.string ((rd_T85 y372 x5_1).f1)) := hcc10 1 _ rfl; have hx10_2 : w17.cell? ⟨go8, (x5_1 : Int).toNat * 5 + 2, none⟩ = some (.bool ((rd_T85 y372 x5_1).f2)) := hcc10 2 _ rfl; have hx10_3 : w17.cell? ⟨go8, (x5_1 : Int).toNat * 5 + 3, none⟩ = some (.bool ((rd_T85 y372 x5_1).f3)) := hcc10 3 _ rfl; have hx10_4 : w17.cell? ⟨go8, (x5_1 : Int).toNat * 5 + 4, none⟩ = some (.string ((rd_T85 y372 x5_1).f4)) := hcc10 4 _ rfl; have hf10_0 : w17.frozen? ⟨go8, (x5_1 : Int).toNat * 5, none⟩ = false := hfr10 0; have hf10_1 : w17.frozen? ⟨go8, (x5_1 : Int).toNat * 5 + 1, none⟩ = false := hfr10 1; have hf10_2 : w17.frozen? ⟨go8, (x5_1 : Int).toNat * 5 + 2, none⟩ = false := hfr10 2; have hf10_3 : w17.frozen? ⟨go8, (x5_1 : Int).toNat * 5 + 3, none⟩ = false := hfr10 3; have hf10_4 : w17.frozen? ⟨go8, (x5_1 : Int).toNat * 5 + 4, none⟩ = false := hfr10 4; clear hcl10 hcc10 hfr10 hM10; replace p10 := eq_true p10; replace q10 := eq_true q10; have HX18 := Aside0.mk (show Kd.R k85 85 w17 w0.heap.size (fun k_ => (P0_ k_ ∨ w.heap.size ≤ k_)) (.slice (some ⟨go8, 0, none⟩) x0_1.length co5) y372 from (by (with_reducible repeat (first|apply rA|apply rN|apply rD)); exact HO_0.out)); obtain ⟨ce18, hcl18, hM18, hcc18, hfr18⟩ := Kd.R_elem HX18.out z85 (x5_1 : Int) (odt) (by have h_ : (x5_1 : Int) < ((x0_1.length : Int) : Int) := odt; first | exact h_ | (have e_ := (Kd.R_reads' HO_0.out).1; omega) | simpa using h_); obtain rfl := k85_openM hM18; have HP18 := Kd.R_seg HX18.out (x5_1 : Int) (odt) (by have h_ : (x5_1 : Int) < ((x0_1.length : Int) : Int) := odt; first | exact h_ | (have e_ := (Kd.R_reads' HO_0.out).1; omega) | simpa using h_) (seg := [.string t373]) (j := 1) hcl18 hcc18 (show 2 ≤ 5 from by decide) (x' := (⟨(rd_T85 y372 x5_1).f0, t373, (rd_T85 y372 x5_1).f2, (rd_T85 y372 x5_1).f3, (rd_T85 y372 x5_1).f4⟩ : S85)) (k85_mkM _ _ _ (⟨(rd_T85 y372 x5_1).f0, t373, (rd_T85 y372 x5_1).f2, (rd_T85 y372 x5_1).f3, (rd_T85 y372 x5_1).f4⟩ : S85) ) (fun _ hk => hk); have hx18_1 := hcc18 1 _ rfl; (try simp only [show (k85).sz = 5 from rfl, Nat.mul_one, Nat.add_zero] at hx18_1); have hf18_1 := hfr18 1; (try simp only [show (k85).sz = 5 from rfl, Nat.mul_one, Nat.add_zero] at hf18_1); clear hcl18 hcc18 hfr18 hM18) | ((with_reducible refine gate_store (t := 9) (p := 25) rfl ?_); refine store_event (t := 9) (p := 25) (v := ?vo_w19) (w1 := (w17.setCell ⟨go8, (x5_1 : Int).toNat * 5 + 1, none⟩ (.string t373))) ?hg ?ho ?hn ?hr ?_; (case ho => rfl); (case hg => rfl); (case hn => rfl); (case hr => first | (go_simp; done) | (go_simp; rfl)); intro w19 hw; have hg : w17.grownBy w19 (some go8) := (by rw [hw]; exact HP18.2); have hp_ : Kd.R k85 85 w19 w0.heap.size (fun k_ => (P0_ k_ ∨ w.heap.size ≤ k_)) (.slice (some ⟨go8, 0, none⟩) x0_1.length co5) y374 := (by rw [hw, Ny374.out]; exact HP18.1); clear HP18; replace HB := Aside0.mk ((by rw [hw]; exact below_set (HB.out) GB8.out : Below w0.heap.size w0 w19)); replace HK := Aside0.mk (Kept.of_grown (S := (fun k_ => P0_ k_)) hg (by repeat (first|(with_reducible first|exact HK.out | apply Kept.alloc | apply Kept.drewN | apply Kept.drew) | exact HK.out)) (fun k_ e_ => (HO_0.out.1 k_ e_))); replace HO_0 := Aside0.mk (hp_); clear hg hw hp_; have p11 : 0 ≤ (x5_1 : Int) := odt; have q11 : (x5_1 : Int) < ((x0_1.length : Int) : Int) := odt; obtain ⟨ce11, hcl11, hM11, hcc11, hfr11⟩ := Kd.R_elem HO_0.out z85 (x5_1 : Int) p11 q11; obtain rfl := k85_openM hM11; have hx11_0 : w19.cell? ⟨go8, (x5_1 : Int).toNat * 5, none⟩ = some (.string ((rd_T85 y374 x5_1).f0)) := hcc11 0 _ rfl; have hx11_1 : w19.cell? ⟨go8, (x5_1 : Int).toNat * 5 + 1, none⟩ = some (.string ((rd_T85 y374 x5_1).f1)) := hcc11 1 _ rfl; have hx11_2 : w19.cell? ⟨go8, (x5_1 : Int).toNat * 5 + 2, none⟩ = some (.bool ((rd_T85 y374 x5_1).f2)) := hcc11 2 _ rfl; have hx11_3 : w19.cell? ⟨go8, (x5_1 : Int).toNat * 5 + 3, none⟩ = some (.bool ((rd_T85 y374 x5_1).f3)) := hcc11 3 _ rfl; have hx11_4 : w19.cell? ⟨go8, (x5_1 : Int).toNat * 5 + 4, none⟩ = some (.string ((rd_T85 y374 x5_1).f4)) := hcc11 4 _ rfl; have hf11_0 : w19.frozen? ⟨go8, (x5_1 : Int).toNat * 5, none⟩ = false := hfr11 0; have hf11_1 : w19.frozen? ⟨go8, (x5_1 : Int).toNat * 5 + 1, none⟩ = false := hfr11 1; have hf11_2 : w19.frozen? ⟨go8, (x5_1 : Int).toNat * 5 + 2, none⟩ = false := hfr11 2; have hf11_3 : w19.frozen? ⟨go8, (x5_1 : Int).toNat * 5 + 3, none⟩ = false := hfr11 3; have hf11_4 : w19.frozen? ⟨go8, (x5_1 : Int).toNat * 5 + 4, none⟩ = false := hfr11 4; clear hcl11 hcc11 hfr11 hM11; replace p11 := eq_true p11; replace q11 := eq_true q11; have HX20 := Aside0.mk (show Kd.R k85 85 w19 w0.heap.size (fun k_ => (P0_ k_ ∨ w.heap.size ≤ k_)) (.slice (some ⟨go8, 0, none⟩) x0_1.length co5) y374 from (by (with_reducible repeat (first|apply rA|apply rN|apply rD)); exact HO_0.out)); obtain ⟨ce20, hcl20, hM20, hcc20, hfr20⟩ := Kd.R_elem HX20.out z85 (x5_1 : Int) (odt) (by have h_ : (x5_1 : Int) < ((x0_1.length : Int) : Int) := odt; first | exact h_ | (have e_ := (Kd.R_reads' HO_0.out).1; omega) | simpa using h_); obtain rfl := k85_openM hM20; have HP20 := Kd.R_seg HX20.out (x5_1 : Int) (odt) (by have h_ : (x5_1 : Int) < ((x0_1.length : Int) : Int) := odt; first | exact h_ | (have e_ := (Kd.R_reads' HO_0.out).1; omega) | simpa using h_) (seg := [.bool ((Int.tmod (wrap64 ((wrap64 (x1_1 + 1)) + 1)) 3) == 0)]) (j := 2) hcl20 hcc20 (show 3 ≤ 5 from by decide) (x' := (⟨(rd_T85 y374 x5_1).f0, (rd_T85 y374 x5_1).f1, ((Int.tmod (wrap64 ((wrap64 (x1_1 + 1)) + 1)) 3) == 0), (rd_T85 y374 x5_1).f3, (rd_T85 y374 x5_1).f4⟩ : S85)) (k85_mkM _ _ _ (⟨(rd_T85 y374 x5_1).f0, (rd_T85 y374 x5_1).f1, ((Int.tmod (wrap64 ((wrap64 (x1_1 + 1)) + 1)) 3) == 0), (rd_T85 y374 x5_1).f3, (rd_T85 y374 x5_1).f4⟩ : S85) ) (fun _ hk => hk); have hx20_2 := hcc20 2 _ rfl; (try simp only [show (k85).sz = 5 from rfl, Nat.mul_one, Nat.add_zero] at hx20_2); have hf20_2 := hfr20 2; (try simp only [show (k85).sz = 5 from rfl, Nat.mul_one, Nat.add_zero] at hf20_2); clear hcl20 hcc20 hfr20 hM20) | ((with_reducible refine gate_store (t := 4) (p := 34) rfl ?_); refine store_event (t := 4) (p := 34) (v := ?vo_w21) (w1 := (w19.setCell ⟨go8, (x5_1 : Int).toNat * 5 + 2, none⟩ (.bool ((Int.tmod (wrap64 ((wrap64 (x1_1 + 1)) + 1)) 3) == 0)))) ?hg ?ho ?hn ?hr ?_; (case ho => rfl); (case hg => rfl); (case hn => rfl); (case hr => first | (go_simp; done) | (go_simp; rfl)); intro w21 hw; have hg : w19.grownBy w21 (some go8) := (by rw [hw]; exact HP20.2); have hp_ : Kd.R k85 85 w21 w0.heap.size (fun k_ => (P0_ k_ ∨ w.heap.size ≤ k_)) (.slice (some ⟨go8, 0, none⟩) x0_1.length co5) y375 := (by rw [hw, Ny375.out]; exact HP20.1); clear HP20; replace HB := Aside0.mk ((by rw [hw]; exact below_set (HB.out) GB8.out : Below w0.heap.size w0 w21)); replace HK := Aside0.mk (Kept.of_grown (S := (fun k_ => P0_ k_)) hg (by repeat (first|(with_reducible first|exact HK.out | apply Kept.alloc | apply Kept.drewN | apply Kept.drew) | exact HK.out)) (fun k_ e_ => (HO_0.out.1 k_ e_))); replace HO_0 := Aside0.mk (hp_); clear hg hw hp_; have p12 : 0 ≤ (x5_1 : Int) := odt; have q12 : (x5_1 : Int) < ((x0_1.length : Int) : Int) := odt; obtain ⟨ce12, hcl12, hM12, hcc12, hfr12⟩ := Kd.R_elem HO_0.out z85 (x5_1 : Int) p12 q12; obtain rfl := k85_openM hM12; have hx12_0 : w21.cell? ⟨go8, (x5_1 : Int).toNat * 5, none⟩ = some (.string ((rd_T85 y375 x5_1).f0)) := hcc12 0 _ rfl; have hx12_1 : w21.cell? ⟨go8, (x5_1 : Int).toNat * 5 + 1, none⟩ = some (.string ((rd_T85 y375 x5_1).f1)) := hcc12 1 _ rfl; have hx12_2 : w21.cell? ⟨go8, (x5_1 : Int).toNat * 5 + 2, none⟩ = some (.bool ((rd_T85 y375 x5_1).f2)) := hcc12 2 _ rfl; have hx12_3 : w21.cell? ⟨go8, (x5_1 : Int).toNat * 5 + 3, none⟩ = some (.bool ((rd_T85 y375 x5_1).f3)) := hcc12 3 _ rfl; have hx12_4 : w21.cell? ⟨go8, (x5_1 : Int).toNat * 5 + 4, none⟩ = some (.string ((rd_T85 y375 x5_1).f4)) := hcc12 4 _ rfl; have hf12_0 : w21.frozen? ⟨go8, (x5_1 : Int).toNat * 5, none⟩ = false := hfr12 0; have hf12_1 : w21.frozen? ⟨go8, (x5_1 : Int).toNat * 5 + 1, none⟩ = false := hfr12 1; have hf12_2 : w21.frozen? ⟨go8, (x5_1 : Int).toNat * 5 + 2, none⟩ = false := hfr12 2; have hf12_3 : w21.frozen? ⟨go8, (x5_1 : Int).toNat * 5 + 3, none⟩ = false := hfr12 3; have hf12_4 : w21.frozen? ⟨go8, (x5_1 : Int).toNat * 5 + 4, none⟩ = false := hfr12 4; clear hcl12 hcc12 hfr12 hM12; replace p12 := eq_true p12; replace q12 := eq_true q12; have HX22 := Aside0.mk (show Kd.R k85 85 w21 w0.heap.size (fun k_ => (P0_ k_ ∨ w.heap.size ≤ k_)) (.slice (some ⟨go8, 0, none⟩) x0_1.length co5) y375 from (by (with_reducible repeat (first|apply rA|apply rN|apply rD)); exact HO_0.out)); obtain ⟨ce22, hcl22, hM22, hcc22, hfr22⟩ := Kd.R_elem HX22.out z85 (x5_1 : Int) (odt) (by have h_ : (x5_1 : Int) < ((x0_1.length : Int) : Int) := odt; first | exact h_ | (have e_ := (Kd.R_reads' HO_0.out).1; omega) | simpa using h_); obtain rfl := k85_openM hM22; have HP22 := Kd.R_seg HX22.out (x5_1 : Int) (odt) (by have h_ : (x5_1 : Int) < ((x0_1.length : Int) : Int) := odt; first | exact h_ | (have e_ := (Kd.R_reads' HO_0.out).1; omega) | simpa using h_) (seg := [.bool ((Int.tmod (wrap64 ((wrap64 ((wrap64 (x1_1 + 1)) + 1)) + 1)) 3) == 0)]) (j := 3) hcl22 hcc22 (show 4 ≤ 5 from by decide) (x' := (⟨(rd_T85 y375 x5_1).f0, (rd_T85 y375 x5_1).f1, (rd_T85 y375 x5_1).f2, ((Int.tmod (wrap64 ((wrap64 ((wrap64 (x1_1 + 1)) + 1)) + 1)) 3) == 0), (rd_T85 y375 x5_1).f4⟩ : S85)) (k85_mkM _ _ _ (⟨(rd_T85 y375 x5_1).f0, (rd_T85 y375 x5_1).f1, (rd_T85 y375 x5_1).f2, ((Int.tmod (wrap64 ((wrap64 ((wrap64 (x1_1 + 1)) + 1)) + 1)) 3) == 0), (rd_T85 y375 x5_1).f4⟩ : S85) ) (fun _ hk => hk); have hx22_3 := hcc22 3 _ rfl; (try simp only [show (k85).sz = 5 from rfl, Nat.mul_one, Nat.add_zero] at hx22_3); have hf22_3 := hfr22 3; (try simp only [show (k85).sz = 5 from rfl, Nat.mul_one, Nat.add_zero] at hf22_3); clear hcl22 hcc22 hfr22 hM22) | ((with_reducible refine gate_store (t := 4) (p := 43) rfl ?_); refine store_event (t := 4) (p := 43) (v := ?vo_w23) (w1 := (w21.setCell ⟨go8, (x5_1 : Int).toNat * 5 + 3, none⟩ (.bool ((Int.tmod (wrap64 ((wrap64 ((wrap64 (x1_1 + 1)) + 1)) + 1)) 3) == 0)))) ?hg ?ho ?hn ?hr ?_; (case ho => rfl); (case hg => rfl); (case hn => rfl); (case hr => first | (go_simp; done) | (go_simp; rfl)); intro w23 hw; have hg : w21.grownBy w23 (some go8) := (by rw [hw]; exact HP22.2); have hp_ : Kd.R k85 85 w23 w0.heap.size (fun k_ => (P0_ k_ ∨ w.heap.size ≤ k_)) (.slice (some ⟨go8, 0, none⟩) x0_1.length co5) y376 := (by rw [hw, Ny376.out]; exact HP22.1); clear HP22; replace HB := Aside0.mk ((by rw [hw]; exact below_set (HB.out) GB8.out : Below w0.heap.size w0 w23)); replace HK := Aside0.mk (Kept.of_grown (S := (fun k_ => P0_ k_)) hg (by repeat (first|(with_reducible first|exact HK.out | apply Kept.alloc | apply Kept.drewN | apply Kept.drew) | exact HK.out)) (fun k_ e_ => (HO_0.out.1 k_ e_))); replace HO_0 := Aside0.mk (hp_); clear hg hw hp_) | ((with_reducible refine gate_callee (f := 38) rfl ?_); refine goesL_ (some 49) rfl rfl Tryd.func38 (by kernel_rfl) rfl #[.int .i64 (wrap64 ((wrap64 ((wrap64 ((wrap64 (x1_1 + 1)) + 1)) + 1)) + 1))] rfl mA ?_; (with_reducible refine (laws_markText.calls k1 (wrap64 ((wrap64 ((wrap64 ((wrap64 (x1_1 + 1)) + 1)) + 1)) + 1)) t377 _ A13.out).mono ?_); rintro e w24 ⟨rfl, hb⟩; refine ⟨_, rfl, ?_⟩; replace HO_0 := Aside0.mk (Kd.R_below (by (with_reducible repeat (first|apply rA|apply rN|apply rD)); exact HO_0.out) hb); replace HK := Aside0.mk (Kept.below (S := (fun k_ => P0_ k_)) (by repeat (first|(with_reducible first|exact HK.out | apply Kept.alloc | apply Kept.drewN | apply Kept.drew) | exact HK.out)) hb); replace HB := Aside0.mk (below_step hB hb); (try clear hb); (try clear hb2); (try clear hk); (try clear hi); have p14 : 0 ≤ (x5_1 : Int) := odt; have q14 : (x5_1 : Int) < ((x0_1.length : Int) : Int) := odt; obtain ⟨ce14, hcl14, hM14, hcc14, hfr14⟩ := Kd.R_elem HO_0.out z85 (x5_1 : Int) p14 q14; obtain rfl := k85_openM hM14; have hx14_0 : w24.cell? ⟨go8, (x5_1 : Int).toNat * 5, none⟩ = some (.string ((rd_T85 y376 x5_1).f0)) := hcc14 0 _ rfl; have hx14_1 : w24.cell? ⟨go8, (x5_1 : Int).toNat * 5 + 1, none⟩ = some (.string ((rd_T85 y376 x5_1).f1)) := hcc14 1 _ rfl; have hx14_2 : w24.cell? ⟨go8, (x5_1 : Int).toNat * 5 + 2, none⟩ = some (.bool ((rd_T85 y376 x5_1).f2)) := hcc14 2 _ rfl; have hx14_3 : w24.cell? ⟨go8, (x5_1 : Int).toNat * 5 + 3, none⟩ = some (.bool ((rd_T85 y376 x5_1).f3)) := hcc14 3 _ rfl; have hx14_4 : w24.cell? ⟨go8, (x5_1 : Int).toNat * 5 + 4, none⟩ = some (.string ((rd_T85 y376 x5_1).f4)) := hcc14 4 _ rfl; have hf14_0 : w24.frozen? ⟨go8, (x5_1 : Int).toNat * 5, none⟩ = false := hfr14 0; have hf14_1 : w24.frozen? ⟨go8, (x5_1 : Int).toNat * 5 + 1, none⟩ = false := hfr14 1; have hf14_2 : w24.frozen? ⟨go8, (x5_1 : Int).toNat * 5 + 2, none⟩ = false := hfr14 2; have hf14_3 : w24.frozen? ⟨go8, (x5_1 : Int).toNat * 5 + 3, none⟩ = false := hfr14 3; have hf14_4 : w24.frozen? ⟨go8, (x5_1 : Int).toNat * 5 + 4, none⟩ = false := hfr14 4; clear hcl14 hcc14 hfr14 hM14; replace p14 := eq_true p14; replace q14 := eq_true q14; have HX25 := Aside0.mk (show Kd.R k85 85 w24 w0.heap.size (fun k_ => (P0_ k_ ∨ w.heap.size ≤ k_)) (.slice (some ⟨go8, 0, none⟩) x0_1.length co5) y376 from (by (with_reducible repeat (first|apply rA|apply rN|apply rD)); exact HO_0.out)); obtain ⟨ce25, hcl25, hM25, hcc25, hfr25⟩ := Kd.R_elem HX25.out z85 (x5_1 : Int) (odt) (by have h_ : (x5_1 : Int) < ((x0_1.length : Int) : Int) := odt; first | exact h_ | (have e_ := (Kd.R_reads' HO_0.out).1; omega) | simpa using h_); obtain rfl := k85_openM hM25; have HP25 := Kd.R_seg HX25.out (x5_1 : Int) (odt) (by have h_ : (x5_1 : Int) < ((x0_1.length : Int) : Int) := odt; first | exact h_ | (have e_ := (Kd.R_reads' HO_0.out).1; omega) | simpa using h_) (seg := [.string t377]) (j := 4) hcl25 hcc25 (show 5 ≤ 5 from by decide) (x' := (⟨(rd_T85 y376 x5_1).f0, (rd_T85 y376 x5_1).f1, (rd_T85 y376 x5_1).f2, (rd_T85 y376 x5_1).f3, t377⟩ : S85)) (k85_mkM _ _ _ (⟨(rd_T85 y376 x5_1).f0, (rd_T85 y376 x5_1).f1, (rd_T85 y376 x5_1).f2, (rd_T85 y376 x5_1).f3, t377⟩ : S85) ) (fun _ hk => hk); have hx25_4 := hcc25 4 _ rfl; (try simp only [show (k85).sz = 5 from rfl, Nat.mul_one, Nat.add_zero] at hx25_4); have hf25_4 := hfr25 4; (try simp only [show (k85).sz = 5 from rfl, Nat.mul_one, Nat.add_zero] at hf25_4); clear hcl25 hcc25 hfr25 hM25) | ((with_reducible refine gate_store (t := 9) (p := 51) rfl ?_); refine store_event (t := 9) (p := 51) (v := ?vo_w26) (w1 := (w24.setCell ⟨go8, (x5_1 : Int).toNat * 5 + 4, none⟩ (.string t377))) ?hg ?ho ?hn ?hr ?_; (case ho => rfl); (case hg => rfl); (case hn => rfl); (case hr => first | (go_simp; done) | (go_simp; rfl)); intro w26 hw; have hg : w24.grownBy w26 (some go8) := (by rw [hw]; exact HP25.2); have hp_ : Kd.R k85 85 w26 w0.heap.size (fun k_ => (P0_ k_ ∨ w.heap.size ≤ k_)) (.slice (some ⟨go8, 0, none⟩) x0_1.length co5) y378 := (by rw [hw, Ny378.out]; exact HP25.1); clear HP25; replace HB := Aside0.mk ((by rw [hw]; exact below_set (HB.out) GB8.out : Below w0.heap.size w0 w26)); replace HK := Aside0.mk (Kept.of_grown (S := (fun k_ => P0_ k_)) hg (by repeat (first|(with_reducible first|exact HK.out | apply Kept.alloc | apply Kept.drewN | apply Kept.drew) | exact HK.out)) (fun k_ e_ => (HO_0.out.1 k_ e_))); replace HO_0 := Aside0.mk (hp_); clear hg hw hp_))
    go_roundg k1
    case measure => have := HK1.out; omega
    case rel => exact ⟨(y378), (wrap64 ((wrap64 ((wrap64 ((wrap64 ((wrap64 (x1_1 + 1)) + 1)) + 1)) + 1)) + 1)), (wrap64 (x5_1 + 1)), rG, rG, H', ⟨by have := HK1.out; omega⟩, ⟨by (with_reducible repeat (first|apply rA|apply rN|apply rD)); exact HO_0.out⟩, ⟨by repeat (first|(with_reducible first|exact HK.out | apply Kept.alloc | apply Kept.drewN | apply Kept.drew) | exact HK.out)⟩, ⟨hB⟩⟩
   ·rw [if_neg c3] at H
    have c3b0 : decide (x5_1 < (x0_1.length : Int)) = false := decide_eq_false c3
    clear c3
    simp only [Option.some.injEq, Prod.mk.injEq] at H
    obtain ⟨rfl, rfl⟩ := H
    obtain ⟨Ao27, co27, eo27⟩ := Kd.R_slice HO_0.out
    subst eo27
    go_wp2
    go_ret
    exact ⟨rE, by (with_reducible repeat (first|apply rA|apply rN|apply rD)); exact HO_0.out, hB, by repeat (first|(with_reducible first|exact HK.out | apply Kept.alloc | apply Kept.drewN | apply Kept.drew) | exact HK.out)⟩

end Go.Proofs.YtdbinpeglamnnaaDoor.PI
