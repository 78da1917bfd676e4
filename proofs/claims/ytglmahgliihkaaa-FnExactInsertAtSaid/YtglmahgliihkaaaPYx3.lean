-- Written by the session's program hprint.py, over the kit's print program. Lean checks it.
import Derived.Test.YtglmahgliihkaaaPYx0
import Derived.Test.YtglmahgliihkaaaPYx1
import Derived.Test.YtglmahgliihkaaaPYx2
namespace Go.Proofs.Ytglmahgliihkaaa.PY
open Go.RowKit Go.Proofs.YtglmahgliihkaaaW.PrintWords Go.Proofs.YtglmahgliihkaaaW.PrintLast Go.Proofs.YtglmahgliihkaaaW.PrintMore
attribute [local go_sem] max2_int min2_int max_two min_two max_three min_three max_four min_four   -- for this text's walks alone
set_option linter.unusedVariables false
set_option linter.unusedSimpArgs false
set_option maxHeartbeats 8000000
set_option maxRecDepth 100000

/-! ### spec_l10Turn: function 23 -/
def spec_l10Turn.f : Nat → S34 → List Int → Int → List S34 → Option S34
  | 0, _, _, _, _ => none
  | k + 1, x, path, i, l => match path with
    | [] => if 0 ≤ i ∧ i ≤ (x.f6.length : Int) ∧ x.f6.length + l.length < 900000000000 then (spec_Merge.f k (x.f6.take i.toNat ++ l ++ x.f6.drop i.toNat)).bind fun s => some ⟨x.f0, x.f1, x.f2, x.f3, x.f4, x.f5, s, x.f7⟩ else none
    | p :: ps => if 0 ≤ p ∧ p < (x.f6.length : Int) ∧ x.f6.length < 900000000000 then (spec_l10Turn.f k (rd_T34 x.f6 p) ps i l).bind fun y => some ⟨x.f0, x.f1, x.f2, x.f3, x.f4, x.f5, x.f6.set p.toNat y, x.f7⟩ else none
theorem spec_l10Turn.vb {α : Type} {d : Kd α} {e b b' : Nat} {W W1 : World} {ok : Nat → Prop} {v : Value} {xs : List α} (h : Kd.V d e W b ok v xs) (hb : Below W.heap.size W W1) : Kd.V d e W1 b' ok v xs := Kd.V_map h (fun _ hf => Kd.F_below hf hb)
theorem spec_l10Turn.ch8 {W0 w : World} {g : Nat} {u0 u1 u2 u3 u4 u5 u6 u7 : Value} (hb : Below W0.heap.size W0 w) (hg : W0.heap.size ≤ g) : Below W0.heap.size W0 ((((((((w.setCell ⟨g, 0, none⟩ u0).setCell ⟨g, 1, none⟩ u1).setCell ⟨g, 2, none⟩ u2).setCell ⟨g, 3, none⟩ u3).setCell ⟨g, 4, none⟩ u4).setCell ⟨g, 5, none⟩ u5).setCell ⟨g, 6, none⟩ u6).setCell ⟨g, 7, none⟩ u7) := below_set (below_set (below_set (below_set (below_set (below_set (below_set (below_set hb hg) hg) hg) hg) hg) hg) hg) hg
theorem spec_l10Turn.finV {α : Type} {d : Kd α} {e b b' g : Nat} {W : World} {ok : Nat → Prop} {v : Value} {xs : List α} {u0 u1 u2 u3 u4 u5 u6 u7 : Value} (h : Kd.V d e W b ok v xs) (hg : ∀ k, ok k → k ≠ g) : Kd.V d e ((((((((W.setCell ⟨g, 0, none⟩ u0).setCell ⟨g, 1, none⟩ u1).setCell ⟨g, 2, none⟩ u2).setCell ⟨g, 3, none⟩ u3).setCell ⟨g, 4, none⟩ u4).setCell ⟨g, 5, none⟩ u5).setCell ⟨g, 6, none⟩ u6).setCell ⟨g, 7, none⟩ u7) b' ok v xs := Kd.V_map (Kd.V_far (p := ⟨g, 7, none⟩) (Kd.V_far (p := ⟨g, 6, none⟩) (Kd.V_far (p := ⟨g, 5, none⟩) (Kd.V_far (p := ⟨g, 4, none⟩) (Kd.V_far (p := ⟨g, 3, none⟩) (Kd.V_far (p := ⟨g, 2, none⟩) (Kd.V_far (p := ⟨g, 1, none⟩) (Kd.V_far (p := ⟨g, 0, none⟩) (h) hg u0) hg u1) hg u2) hg u3) hg u4) hg u5) hg u6) hg u7) (fun _ hf => hf)
theorem spec_l10Turn.putN {W : World} {base g n cap : Nat} {xs : List S34} {A4 A5 A6 : Option Addr} {c4 c5 c6 : Nat} {ok okp : Nat → Prop} (h : Kd.N k34 34 W base ok (.slice (some ⟨g, 0, none⟩) n cap) xs) (i : Int) (h0 : 0 ≤ i) (h1 : i < n) (y : S34) (l4 : y.f4.length ≤ c4) (g4 : Kd.F k69 W okp A4 y.f4.length y.f4) (l5 : y.f5.length ≤ c5) (g5 : Kd.F k71 W okp A5 y.f5.length y.f5) (l6 : y.f6.length ≤ c6) (g6 : Kd.F k34 W okp A6 y.f6.length y.f6) (hokp : ∀ k, okp k → ok k ∧ k ≠ g) :
    Kd.N k34 34 (W.setCells g (i.toNat * 8) [.int .i64 y.f0, .string y.f1, .string y.f2, .string y.f3, .slice A4 y.f4.length c4, .slice A5 y.f5.length c5, .slice A6 y.f6.length c6, .string y.f7]) base ok (.slice (some ⟨g, 0, none⟩) n cap) (xs.set i.toNat y) ∧ W.grownBy (W.setCells g (i.toNat * 8) [.int .i64 y.f0, .string y.f1, .string y.f2, .string y.f3, .slice A4 y.f4.length c4, .slice A5 y.f5.length c5, .slice A6 y.f6.length c6, .string y.f7]) (some g) := by
  obtain ⟨c, hcl, -, hcc, -⟩ := Kd.N_elem h z34 i h0 h1
  have hz : k34.sz = 8 := rfl
  have hcl8 : c.length = 8 := hcl
  have hj : 0 + ([.int .i64 y.f0, .string y.f1, .string y.f2, .string y.f3, .slice A4 y.f4.length c4, .slice A5 y.f5.length c5, .slice A6 y.f6.length c6, .string y.f7] : List Value).length ≤ k34.sz := Nat.le_refl 8
  have hM : Kd.FK k34 W okp y (c.take 0 ++ [.int .i64 y.f0, .string y.f1, .string y.f2, .string y.f3, .slice A4 y.f4.length c4, .slice A5 y.f5.length c5, .slice A6 y.f6.length c6, .string y.f7] ++ c.drop (0 + ([.int .i64 y.f0, .string y.f1, .string y.f2, .string y.f3, .slice A4 y.f4.length c4, .slice A5 y.f5.length c5, .slice A6 y.f6.length c6, .string y.f7] : List Value).length)) := by
    rw [List.take_zero, List.nil_append, List.drop_eq_nil_of_le (by rw [hcl8]; show 8 ≤ 0 + 8; omega), List.append_nil]
    exact k34_mkF W okp y l4 g4 l5 g5 l6 g6
  have hS := Kd.N_seg (seg := [.int .i64 y.f0, .string y.f1, .string y.f2, .string y.f3, .slice A4 y.f4.length c4, .slice A5 y.f5.length c5, .slice A6 y.f6.length c6, .string y.f7]) (j := 0) (x' := y) (okp := okp) h i h0 h1 hcl hcc hj hM hokp
  rw [hz, Nat.add_zero] at hS
  exact hS
theorem spec_l10Turn.calls (k : Nat) : ∀ (P : Nat → Prop) (x : S34) (A4 : Option Addr) (c4 : Nat) (A5 : Option Addr) (c5 : Nat) (A6 : Option Addr) (c6 : Nat) (Ap : Option Addr) (cp : Nat) (path : List Int) (i : Int) (Al : Option Addr) (cl : Nat) (l : List S34) (r : S34) (w : World) (hs4 : Kd.V k69 69 w w.heap.size P (.slice A4 x.f4.length c4) x.f4) (hs5 : Kd.V k71 71 w w.heap.size P (.slice A5 x.f5.length c5) x.f5) (hs6 : Kd.V k34 34 w w.heap.size P (.slice A6 x.f6.length c6) x.f6) (hp : Kd.C (Kd.int .i64) w Ap path.length path) (hcp : path.length ≤ cp) (hL : Kd.V k34 34 w w.heap.size P (.slice Al l.length cl) l) (h : spec_l10Turn.f k x path i l = some r),
    Calls Try.prog 23 #[.agg #[.int .i64 x.f0, .string x.f1, .string x.f2, .string x.f3, .slice A4 x.f4.length c4, .slice A5 x.f5.length c5, .slice A6 x.f6.length c6, .string x.f7], .slice Ap path.length cp, .int .i64 i, .int .i64 i, .slice Al l.length cl] w fun e w' => ∃ v4 v5 v6 : Value, e = .returned (.agg #[.int .i64 r.f0, .string r.f1, .string r.f2, .string r.f3, v4, v5, v6, .string r.f7]) ∧ Kd.V k69 69 w' 0 (fun k_ => P k_ ∨ w.heap.size ≤ k_) v4 r.f4 ∧ Kd.V k71 71 w' 0 (fun k_ => P k_ ∨ w.heap.size ≤ k_) v5 r.f5 ∧ Kd.V k34 34 w' 0 (fun k_ => P k_ ∨ w.heap.size ≤ k_) v6 r.f6 ∧ Below w.heap.size w w' := by
  induction k with
  | zero => intro P x A4 c4 A5 c5 A6 c6 Ap cp path i Al cl l r w hs4 hs5 hs6 hp hcp hL h; exact absurd h (by simp [spec_l10Turn.f])
  | succ k ih =>
  intro P x A4 c4 A5 c5 A6 c6 Ap cp path i Al cl l r w hs4 hs5 hs6 hp hcp hL h
  simp only [spec_l10Turn.f] at h
  have IH := Aside0.mk ih
  have V4 := Aside0.mk (Kd.V_bound hs4)
  have V5 := Aside0.mk (Kd.V_bound hs5)
  have V6 := Aside0.mk (Kd.V_bound hs6)
  have VL := Aside0.mk (Kd.V_bound hL)
  have HRp := Aside0.mk hp
  have HCp := Aside0.mk hcp
  have HB := Aside0.mk (Below.refl w.heap.size w)
  clear ih hs4 hs5 hs6 hp hcp hL
  have hu34 := Try.underlying34
  cases path with
  | nil =>
    obtain ⟨pc_, h⟩ := if_som h
    obtain ⟨p0, p1, pz⟩ := pc_
    replace h := Option.bind_eq_some_iff.1 h
    obtain ⟨s, hs, h⟩ := h
    simp only [Option.some.injEq] at h
    subst h
    have HZ := Aside0.mk pz
    have P01 := Aside0.mk (And.intro p0 p1)
    obtain ⟨y1, hy1⟩ : ∃ y_ : List S34, y_ = x.f6.take i.toNat := ⟨_, rfl⟩
    obtain ⟨y2, hy2⟩ : ∃ y_ : List S34, y_ = x.f6.drop i.toNat := ⟨_, rfl⟩
    rw [← hy1, ← hy2] at hs
    obtain ⟨ym, hym⟩ : ∃ y_ : List S34, y_ = y1 ++ l := ⟨_, rfl⟩
    rw [← hym] at hs
    obtain ⟨yz, hyz⟩ : ∃ y_ : List S34, y_ = ym ++ y2 := ⟨_, rfl⟩
    rw [← hyz] at hs
    have NM := Aside0.mk hym
    have NZ := Aside0.mk hyz
    have HLM := Aside0.mk (show ym.length = y1.length + l.length by rw [hym, List.length_append])
    clear hym hyz
    have TS := Aside0.mk hs
    have HY1 := Aside0.mk hy1
    have HY2 := Aside0.mk hy2
    clear hs hy1 hy2 p0 p1 pz
    go_enter Try.func23, Try.ntmps23
    go_upto_region 3 with (first
      | ((with_reducible refine gate_dst (N := 5) rfl ?_); refine box_event ?hg (N := 5) ?hd (cs := #[.int .i64 x.f0, .string x.f1, .string x.f2, .string x.f3, .slice A4 x.f4.length c4, .slice A5 x.f5.length c5, .slice A6 x.f6.length c6, .string x.f7]) (t := 34) ?hr ?_; (case hd => rfl); (case hg => rfl); (case hr => first | (go_simp; done) | (go_simp; rfl)); intro gx hg w1 hbox hb; have BX := Aside0.mk hbox; have GX := Aside0.mk (show w.heap.size ≤ gx from Nat.le_of_eq hg.symm); replace HB := Aside0.mk (below_step HB.out hb); clear hb hbox hg)
      | ((with_reducible refine gate_dst (N := 10) rfl ?_); refine box_event ?hg (N := 10) ?hd (cs := #[.int .i64 0, .string (⟨#[]⟩ : ByteArray), .string (⟨#[]⟩ : ByteArray), .string (⟨#[]⟩ : ByteArray), .slice none 0 0, .slice none 0 0, .slice none 0 0, .string (⟨#[]⟩ : ByteArray)]) (t := 34) ?hr ?_; (case hd => rfl); (case hg => rfl); (case hr => first | (go_simp; done) | (go_simp; rfl)); intro gR hg w1 hbox hb; have BR := Aside0.mk hbox; have GR := Aside0.mk (show gx < gR by rw [hg]; exact blk_lt BX.out); replace BX := Aside0.mk (blk_below BX.out hb); replace HB := Aside0.mk (below_step HB.out hb); clear hb hbox hg; obtain ⟨zx0, zx1, zx2, zx3, zx4, zx5, zx6, zx7⟩ := bc8 BX.out)
      | ((with_reducible refine gate_dst (N := 11) rfl ?_); refine box_event ?hg (N := 11) ?hd (cs := #[.int .i64 0, .string (⟨#[]⟩ : ByteArray), .string (⟨#[]⟩ : ByteArray), .string (⟨#[]⟩ : ByteArray), .slice none 0 0, .slice none 0 0, .slice none 0 0, .string (⟨#[]⟩ : ByteArray)]) (t := 34) ?hr ?_; (case hd => rfl); (case hg => rfl); (case hr => first | (go_simp; done) | (go_simp; rfl)); intro gO hg w1 hbox hb; have BO := Aside0.mk hbox; have GO := Aside0.mk (show gR < gO by rw [hg]; exact blk_lt BR.out); have HX := Aside0.mk (spec_l10Turn.ch8 (u0 := .int .i64 x.f0) (u1 := .string x.f1) (u2 := .string x.f2) (u3 := .string x.f3) (u4 := .slice A4 x.f4.length c4) (u5 := .slice A5 x.f5.length c5) (u6 := .slice A6 x.f6.length c6) (u7 := .string x.f7) hb (Nat.le_of_eq hg.symm)); obtain ⟨zk0, zk1, zk2, zk3, zk4, zk5, zk6, zk7⟩ := bc8 hbox; obtain ⟨yk0, yk1, yk2, yk3, yk4, yk5, yk6, yk7⟩ := bf8 hbox; skip; clear hb hbox hg))
    try simp only [Act.put, sT, sZ, sS, i64_w, i32_w]
    replace BO := Aside0.mk (put8 (b0 := .int .i64 x.f0) (b1 := .string x.f1) (b2 := .string x.f2) (b3 := .string x.f3) (b4 := .slice A4 x.f4.length c4) (b5 := .slice A5 x.f5.length c5) (b6 := .slice A6 x.f6.length c6) (b7 := .string x.f7) BO.out)
    replace BX := Aside0.mk (blk_below BX.out HX.out)
    replace BR := Aside0.mk (blk_below BR.out HX.out)
    replace HB := Aside0.mk (below_step HB.out HX.out)
    clear HX zk0 zk1 zk2 zk3 zk4 zk5 zk6 zk7 yk0 yk1 yk2 yk3 yk4 yk5 yk6 yk7 zx0 zx1 zx2 zx3 zx4 zx5 zx6 zx7
    generalize World.setCell _ _ _ = w8 at BO BX BR HB ⊢
    obtain ⟨p0, p1⟩ := P01.out
    have hy1 := HY1.out
    have hy2 := HY2.out
    have hn1 : y1.length = i.toNat := by rw [hy1, List.length_take]; omega
    have hn2 : y2.length = x.f6.length - i.toNat := by rw [hy2, List.length_drop]
    obtain ⟨i0, hi0, -, hsz, -⟩ := info_parts info34
    have hroom := (Kd.V_reads' V6.out).2.1
    have hcutT := cut_to (P := Try.prog) 32 34 .i64 Try.underlying32 hi0 A6 x.f6.length c6 i p0 p1 hroom
    have hcutF := cut_from (P := Try.prog) 32 34 .i64 Try.underlying32 hi0 8 hsz A6 x.f6.length c6 i p0 p1
    have hF1 := Kd.F_take (m := i.toNat) (Kd.V_at (e := 0) (base := 0) V6.out).2.2 (by omega)
    have hF2 := Kd.F_cut (m := i.toNat) (c := c6) (Kd.V_at (e := 0) (base := 0) V6.out).2.2 (by omega) hroom
    rw [← hy1] at hF1
    rw [← hy2] at hF2
    obtain ⟨A7, hA7⟩ : ∃ A_, A_ = (if c6 = i.toNat then A6 else A6.map (·.add (i.toNat * 8))) := ⟨_, rfl⟩
    obtain ⟨c7, hc7⟩ : ∃ c_, c_ = c6 - i.toNat := ⟨_, rfl⟩
    rw [← hn1] at hcutT
    rw [← hn2, ← hA7, ← hc7] at hcutF
    replace hF2 : Kd.F k34 w (fun k_ => P k_ ∧ k_ < w.heap.size) A7 y2.length y2 := by rw [hA7]; exact hF2
    have W1 := Aside0.mk (Kd.V_mk (e := 34) (base := 0) (show y1.length ≤ c6 by omega) hF1)
    have W2 := Aside0.mk (Kd.V_mk (e := 34) (base := 0) (show y2.length ≤ c7 by omega) hF2)
    have HN12 := Aside0.mk (show y1.length + y2.length = x.f6.length by omega)
    replace p0 := eq_true p0
    replace p1 := eq_true p1
    clear hF1 hF2 hA7 hc7 hn1 hn2 hy1 hy2 hi0 hsz hroom
    have hdw := below_drew (Below.refl w8.heap.size w8)
    replace BX := Aside0.mk (blk_below BX.out hdw)
    replace BO := Aside0.mk (blk_below BO.out hdw)
    replace BR := Aside0.mk (blk_below BR.out hdw)
    replace HB := Aside0.mk (below_step HB.out hdw)
    clear hdw
    refine start_ (n := 14) (S := fun w' => w'.cell? ⟨gx, 6, none⟩ = some (.slice A6 x.f6.length c6)) (ds := []) #[false, false, false, false, false, false, false, false, false, false, false, false, false, false] (by kernel_rfl) rfl rfl ((blk_cell BX.out 6).trans rfl) (fun hHeld => ?_)
    generalize World.drew _ = w5 at BX BO BR HB hHeld ⊢
    refine pure_ (i := 1) (N := some 18) (v := ?_) (a' := ?_) #[false, true, false, false, false, false, false, false, false, false, false, false, false, false] rfl rfl (by kernel_rfl) (fun _ _ _ h => h) (Or.inl ⟨by rfl, ?_⟩) ?_ ?_
    rotate_left
    · intro w'
      go_simp
      with_reducible rfl
    rotate_left
    · simp only [Act.put, sT, sZ, sS, i64_w, i32_w]
      rfl
    refine pure_ (i := 3) (N := some 20) (v := ?_) (a' := ?_) #[false, true, false, true, false, false, false, false, false, false, false, false, false, false] rfl rfl (by kernel_rfl) (fun _ _ _ h => h) (Or.inl ⟨by rfl, ?_⟩) ?_ ?_
    rotate_left
    · intro w'
      go_simp
      with_reducible rfl
    rotate_left
    · simp only [Act.put, sT, sZ, sS, i64_w, i32_w]
      rfl
    refine pure_ (i := 6) (N := some 23) (v := ?_) (a' := ?_) #[false, true, false, true, false, false, true, false, false, false, false, false, false, false] rfl rfl (by kernel_rfl) (fun _ _ _ h => h) (Or.inl ⟨by rfl, ?_⟩) ?_ ?_
    rotate_left
    · intro w'
      go_simp
      with_reducible rfl
    rotate_left
    · simp only [Act.put, sT, sZ, sS, i64_w, i32_w]
      rfl
    refine pure_ (i := 8) (N := some 25) (v := ?_) (a' := ?_) #[false, true, false, true, false, false, true, false, true, false, false, false, false, false] rfl rfl (by kernel_rfl) (fun _ _ _ h => h) (Or.inl ⟨by rfl, ?_⟩) ?_ ?_
    rotate_left
    · intro w'
      go_simp
      with_reducible rfl
    rotate_left
    · simp only [Act.put, sT, sZ, sS, i64_w, i32_w]
      rfl
    refine pure_ (i := 10) (N := some 27) (v := ?_) (a' := ?_) #[false, true, false, true, false, false, true, false, true, false, true, false, false, false] rfl rfl (by kernel_rfl) (fun _ _ _ h => h) (Or.inl ⟨by rfl, ?_⟩) ?_ ?_
    rotate_left
    · intro w'
      go_simp
      with_reducible rfl
    rotate_left
    · simp only [Act.put, sT, sZ, sS, i64_w, i32_w]
      rfl
    refine take_ (i := 2) (N := some 19) (v := ?_) (a' := ?_) #[false, true, true, true, false, false, true, false, true, false, true, false, false, false] rfl rfl (by kernel_rfl) (fun _ _ _ h => h) (Or.inl ⟨by rfl, ?_⟩) hHeld ?_ ?_
    rotate_left
    · rintro w' q0_
      go_simp
      with_reducible rfl
    rotate_left
    · simp only [Act.put, sT, sZ, sS, i64_w, i32_w]
      rfl
    refine take_ (i := 9) (N := some 26) (v := ?_) (a' := ?_) #[false, true, true, true, false, false, true, false, true, true, true, false, false, false] rfl rfl (by kernel_rfl) (fun _ _ _ h => h) (Or.inl ⟨by rfl, ?_⟩) hHeld ?_ ?_
    rotate_left
    · rintro w' q0_
      go_simp
      with_reducible rfl
    rotate_left
    · simp only [Act.put, sT, sZ, sS, i64_w, i32_w]
      rfl
    refine pure_ (i := 4) (N := some 21) (v := ?_) (a' := ?_) #[false, true, true, true, true, false, true, false, true, true, true, false, false, false] rfl rfl (by kernel_rfl) (fun _ _ _ h => h) (Or.inl ⟨by rfl, ?_⟩) ?_ ?_
    rotate_left
    · intro w'
      go_simp
      with_reducible rfl
    rotate_left
    · simp only [Act.put, sT, sZ, sS, i64_w, i32_w]
      rfl
    refine pure_ (i := 11) (N := some 28) (v := ?_) (a' := ?_) #[false, true, true, true, true, false, true, false, true, true, true, true, false, false] rfl rfl (by kernel_rfl) (fun _ _ _ h => h) (Or.inl ⟨by rfl, ?_⟩) ?_ ?_
    rotate_left
    · intro w'
      go_simp
      with_reducible rfl
    rotate_left
    · simp only [Act.put, sT, sZ, sS, i64_w, i32_w]
      rfl
    refine one_ (i := 0) (N := some 17) #[true, true, true, true, true, false, true, false, true, true, true, true, false, false] rfl rfl (by kernel_rfl) (by decide) (fun K hK => ?_)
    refine Kd.R_lit_step k34 _ 34 (by rfl) (N := 17) rfl (xs := ([] : List S34)) (inner := []) (ok := fun _ => True) (okp := fun _ => True) ?hr ?hp (fun _ hk => hk) trivial (Below.refl _ _) (Nat.le_refl _) (by simp) ?_
    case hr => first | (go_simp; done) | (go_simp; rfl)
    case hp => exact (Reps.none _ _)
    intro v3 w3 ho hb hg_ hnew_
    clear hg_ hnew_
    obtain ⟨N1, hN1, ho⟩ : ∃ N1 : Nat, (gO < N1 ∧ N1 ≤ w3.heap.size ∧ w.heap.size ≤ N1) ∧ Kd.N k34 34 w3 N1 (fun k_ => (P k_ ∧ k_ < w.heap.size) ∨ N1 ≤ k_) v3 ([] : List S34) := ⟨_, ⟨blk_lt BO.out, hb.size, HB.out.size⟩, Kd.N_mono (Kd.R_N (Kd.R_bound ho)) (fun _ h_ => .inr h_.2.1)⟩
    have HN1 := Aside0.mk hN1
    have HSZ := Aside0.mk hN1.2.1
    have HO := Aside0.mk ho
    replace BX := Aside0.mk (blk_below BX.out hb)
    replace BO := Aside0.mk (blk_below BO.out hb)
    replace BR := Aside0.mk (blk_below BR.out hb)
    replace HB := Aside0.mk (below_step HB.out hb)
    clear hb ho hN1
    obtain ⟨A3, c3, e_⟩ := Kd.N_slice HO.out
    subst e_
    refine hK.out _ _ ((blk_cell BX.out 6).trans rfl) (fun hHeld => ?_)
    clear hK K
    refine norm_ (a' := ?_) ?_ ?_
    rotate_left
    · show Act.put _ (some 17) _ = _
      simp only [Act.put, sT, sZ, sS, i64_w, i32_w]
      rfl
    refine one_ (i := 5) (N := some 22) #[true, true, true, true, true, true, true, false, true, true, true, true, false, false] rfl rfl (by kernel_rfl) (by decide) (fun K hK => ?_)
    refine Kd.N_append_rows_step k34 (w0 := _) N1 (by rfl) (.tmp 17) (.tmp 21) 32 34 (.agg #[(.int .i64 0), (.string ⟨#[]⟩), (.string ⟨#[]⟩), (.string ⟨#[]⟩), (.slice none 0 0), (.slice none 0 0), (.slice none 0 0), (.string ⟨#[]⟩)]) 144 rfl Try.underlying32 info34 rfl (by decide) (by omega) (.slice A3 ([] : List S34).length c3) [] y1 A6 y1.length c6 (fun k_ => (P k_ ∧ k_ < w.heap.size) ∨ N1 ≤ k_) (fun k_ => P k_ ∧ k_ < w.heap.size) rfl rfl HO.out (Kd.V_F (spec_l10Turn.vb (b' := 0) W1.out HB.out)) ?aK ?aF (Below.refl _ _) HSZ.out ?aL ?_
    case aK => exact fun k_ h_ => ⟨.inl h_, fun e_ => Nat.not_lt.2 (Nat.le_trans HN1.out.2.2 (Kd.N_base HO.out k_ e_.symm)) h_.2⟩
    case aF => exact fun k_ h_ => .inr (Nat.le_trans HSZ.out h_)
    case aL => have h1_ := HZ.out; have h2_ := HN12.out; have h3_ := HLM.out; (try simp only [List.length_append, List.length_nil]); omega
    intro v9 w9 ho hb hg hat
    have hbo := Kd.N_base HO.out
    replace HSZ := Aside0.mk (Nat.le_trans HSZ.out hg.size)
    replace BX := Aside0.mk (blk_grown BX.out hg (fun e_ => absurd (hbo _ e_.symm) (Nat.not_le.2 (Nat.lt_trans GR.out (Nat.lt_trans GO.out HN1.out.1)))))
    replace BR := Aside0.mk (blk_grown BR.out hg (fun e_ => absurd (hbo _ e_.symm) (Nat.not_le.2 (Nat.lt_trans GO.out HN1.out.1))))
    replace BO := Aside0.mk (blk_grown BO.out hg (fun e_ => absurd (hbo _ e_.symm) (Nat.not_le.2 HN1.out.1)))
    replace HB := Aside0.mk (pw_below_grown HB.out _ HB.out.size hg (fun k_ e_ => Nat.le_trans HN1.out.2.2 (hbo k_ e_)))
    replace HO := Aside0.mk (show Kd.N k34 34 w9 N1 (fun k_ => (P k_ ∧ k_ < w.heap.size) ∨ N1 ≤ k_) v9 y1 from ho)
    clear ho hb hg hat hbo
    obtain ⟨A22, c22, e_⟩ := Kd.N_slice HO.out
    subst e_
    refine hK.out _ _ ((blk_cell BX.out 6).trans rfl) (fun hHeld => ?_)
    clear hK K
    refine norm_ (a' := ?_) ?_ ?_
    rotate_left
    · show Act.put _ (some 22) _ = _
      simp only [Act.put, sT, sZ, sS, i64_w, i32_w]
      rfl
    refine one_ (i := 7) (N := some 24) #[true, true, true, true, true, true, true, true, true, true, true, true, false, false] rfl rfl (by kernel_rfl) (by decide) (fun K hK => ?_)
    refine Kd.N_append_rows_step k34 (w0 := _) N1 (by rfl) (.tmp 22) (.tmp 23) 32 34 (.agg #[(.int .i64 0), (.string ⟨#[]⟩), (.string ⟨#[]⟩), (.string ⟨#[]⟩), (.slice none 0 0), (.slice none 0 0), (.slice none 0 0), (.string ⟨#[]⟩)]) 144 rfl Try.underlying32 info34 rfl (by decide) (by omega) (.slice A22 y1.length c22) y1 l Al l.length cl (fun k_ => (P k_ ∧ k_ < w.heap.size) ∨ N1 ≤ k_) (fun k_ => P k_ ∧ k_ < w.heap.size) rfl rfl HO.out (Kd.V_F (spec_l10Turn.vb (b' := 0) VL.out HB.out)) ?aK ?aF (Below.refl _ _) HSZ.out ?aL ?_
    case aK => exact fun k_ h_ => ⟨.inl h_, fun e_ => Nat.not_lt.2 (Nat.le_trans HN1.out.2.2 (Kd.N_base HO.out k_ e_.symm)) h_.2⟩
    case aF => exact fun k_ h_ => .inr (Nat.le_trans HSZ.out h_)
    case aL => have h1_ := HZ.out; have h2_ := HN12.out; have h3_ := HLM.out; (try simp only [List.length_append, List.length_nil]); omega
    intro v9 w9 ho hb hg hat
    rw [← NM.out] at ho
    have hbo := Kd.N_base HO.out
    replace HSZ := Aside0.mk (Nat.le_trans HSZ.out hg.size)
    replace BX := Aside0.mk (blk_grown BX.out hg (fun e_ => absurd (hbo _ e_.symm) (Nat.not_le.2 (Nat.lt_trans GR.out (Nat.lt_trans GO.out HN1.out.1)))))
    replace BR := Aside0.mk (blk_grown BR.out hg (fun e_ => absurd (hbo _ e_.symm) (Nat.not_le.2 (Nat.lt_trans GO.out HN1.out.1))))
    replace BO := Aside0.mk (blk_grown BO.out hg (fun e_ => absurd (hbo _ e_.symm) (Nat.not_le.2 HN1.out.1)))
    replace HB := Aside0.mk (pw_below_grown HB.out _ HB.out.size hg (fun k_ e_ => Nat.le_trans HN1.out.2.2 (hbo k_ e_)))
    replace HO := Aside0.mk (show Kd.N k34 34 w9 N1 (fun k_ => (P k_ ∧ k_ < w.heap.size) ∨ N1 ≤ k_) v9 ym from ho)
    clear ho hb hg hat hbo
    obtain ⟨A24, c24, e_⟩ := Kd.N_slice HO.out
    subst e_
    refine hK.out _ _ ((blk_cell BX.out 6).trans rfl) (fun hHeld => ?_)
    clear hK K
    refine norm_ (a' := ?_) ?_ ?_
    rotate_left
    · show Act.put _ (some 24) _ = _
      simp only [Act.put, sT, sZ, sS, i64_w, i32_w]
      rfl
    refine one_ (i := 12) (N := some 29) #[true, true, true, true, true, true, true, true, true, true, true, true, true, false] rfl rfl (by kernel_rfl) (by decide) (fun K hK => ?_)
    refine Kd.N_append_rows_step k34 (w0 := _) N1 (by rfl) (.tmp 24) (.tmp 28) 32 34 (.agg #[(.int .i64 0), (.string ⟨#[]⟩), (.string ⟨#[]⟩), (.string ⟨#[]⟩), (.slice none 0 0), (.slice none 0 0), (.slice none 0 0), (.string ⟨#[]⟩)]) 144 rfl Try.underlying32 info34 rfl (by decide) (by omega) (.slice A24 ym.length c24) ym y2 A7 y2.length c7 (fun k_ => (P k_ ∧ k_ < w.heap.size) ∨ N1 ≤ k_) (fun k_ => P k_ ∧ k_ < w.heap.size) rfl rfl HO.out (Kd.V_F (spec_l10Turn.vb (b' := 0) W2.out HB.out)) ?aK ?aF (Below.refl _ _) HSZ.out ?aL ?_
    case aK => exact fun k_ h_ => ⟨.inl h_, fun e_ => Nat.not_lt.2 (Nat.le_trans HN1.out.2.2 (Kd.N_base HO.out k_ e_.symm)) h_.2⟩
    case aF => exact fun k_ h_ => .inr (Nat.le_trans HSZ.out h_)
    case aL => have h1_ := HZ.out; have h2_ := HN12.out; have h3_ := HLM.out; (try simp only [List.length_append, List.length_nil]); omega
    intro v9 w9 ho hb hg hat
    rw [← NZ.out] at ho
    have hbo := Kd.N_base HO.out
    replace HSZ := Aside0.mk (Nat.le_trans HSZ.out hg.size)
    replace BX := Aside0.mk (blk_grown BX.out hg (fun e_ => absurd (hbo _ e_.symm) (Nat.not_le.2 (Nat.lt_trans GR.out (Nat.lt_trans GO.out HN1.out.1)))))
    replace BR := Aside0.mk (blk_grown BR.out hg (fun e_ => absurd (hbo _ e_.symm) (Nat.not_le.2 (Nat.lt_trans GO.out HN1.out.1))))
    replace BO := Aside0.mk (blk_grown BO.out hg (fun e_ => absurd (hbo _ e_.symm) (Nat.not_le.2 HN1.out.1)))
    replace HB := Aside0.mk (pw_below_grown HB.out _ HB.out.size hg (fun k_ e_ => Nat.le_trans HN1.out.2.2 (hbo k_ e_)))
    replace HO := Aside0.mk (show Kd.N k34 34 w9 N1 (fun k_ => (P k_ ∧ k_ < w.heap.size) ∨ N1 ≤ k_) v9 yz from ho)
    clear ho hb hg hat hbo
    obtain ⟨A29, c29, e_⟩ := Kd.N_slice HO.out
    subst e_
    refine hK.out _ _ ((blk_cell BX.out 6).trans rfl) (fun hHeld => ?_)
    clear hK K
    refine norm_ (a' := ?_) ?_ ?_
    rotate_left
    · show Act.put _ (some 29) _ = _
      simp only [Act.put, sT, sZ, sS, i64_w, i32_w]
      rfl
    refine pure_ (i := 13) (N := some 12) (v := ?_) (a' := ?_) #[true, true, true, true, true, true, true, true, true, true, true, true, true, true] rfl rfl (by kernel_rfl) (fun _ _ _ h => h) (Or.inl ⟨by rfl, ?_⟩) ?_ ?_
    rotate_left
    · intro w'
      go_simp
      with_reducible rfl
    rotate_left
    · simp only [Act.put, sT, sZ, sS, i64_w, i32_w]
      rfl
    refine done_ (by kernel_rfl) ?_
    clear hHeld
    go_upto_region 5 with (first
      | ((with_reducible refine gate_callee (f := 43) rfl ?_); refine goesL_ (some 31) rfl rfl Try.func43 (by kernel_rfl) rfl #[.slice A29 yz.length c29] rfl mA ?_; (with_reducible refine (spec_Merge.calls k A29 c29 yz s _ (Kd.N_reads' HO.out).2.2 (Kd.N_reads' HO.out).2.1 TS.out).mono ?_); rintro e w5 ⟨v8, rfl, h8, hb⟩; refine ⟨_, rfl, ?_⟩; obtain ⟨N6, hN6, h8⟩ : ∃ N6 : Nat, gO < N6 ∧ Kd.R k34 34 w5 N6 (fun _ => True) v8 s := ⟨_, blk_lt BO.out, h8⟩; have HN6 := Aside0.mk hN6; have H8 := Aside0.mk h8; replace BO := Aside0.mk (blk_below BO.out hb); replace BR := Aside0.mk (blk_below BR.out hb); replace HB := Aside0.mk (below_step HB.out hb); clear h8 hb hN6 HO BX; obtain ⟨A8, c8, e_⟩ := Kd.R_slice H8.out; subst e_; have z6 := blk_cell BO.out 6; have y6 := blk_frozen BO.out 6))
    try simp only [Act.put, sT, sZ, sS, i64_w, i32_w]
    clear z6 y6
    replace BO := Aside0.mk (blk_put (cs' := #[.int .i64 x.f0, .string x.f1, .string x.f2, .string x.f3, .slice A4 x.f4.length c4, .slice A5 x.f5.length c5, .slice A8 s.length c8, .string x.f7]) BO.out 6 (.slice A8 s.length c8) rfl)
    replace BR := Aside0.mk (blk_far BR.out (p := ⟨gO, 6, none⟩) (Nat.ne_of_lt GO.out) (.slice A8 s.length c8))
    replace H8 := Aside0.mk (Kd.R_far (p := ⟨gO, 6, none⟩) (Kd.R_bound H8.out) (fun k_ h_ => Nat.ne_of_gt (Nat.lt_of_lt_of_le HN6.out h_.2.1)) (.slice A8 s.length c8))
    replace HB := Aside0.mk (below_set (j := 6) (v := .slice A8 s.length c8) HB.out (Nat.le_trans GX.out (Nat.le_trans (Nat.le_of_lt GR.out) (Nat.le_of_lt GO.out))))
    generalize World.setCell _ _ _ = w9 at BO BR H8 HB ⊢
    obtain ⟨zk0, zk1, zk2, zk3, zk4, zk5, zk6, zk7⟩ := bc8 BO.out
    obtain ⟨zr0, zr1, zr2, zr3, zr4, zr5, zr6, zr7⟩ := bc8 BR.out
    obtain ⟨yr0, yr1, yr2, yr3, yr4, yr5, yr6, yr7⟩ := bf8 BR.out
    go_wp2
    refine bodyPost_ret (results_cell_row rfl _ _ gR 34 #[.int .i64 x.f0, .string x.f1, .string x.f2, .string x.f3, .slice A4 x.f4.length c4, .slice A5 x.f5.length c5, .slice A8 s.length c8, .string x.f7] (0, 0) _ rfl (put8 BR.out) Try.underlying34 rfl (by kernel_rfl)) rfl ?_
    exact ⟨_, _, _, rfl, Kd.V_mono (spec_l10Turn.finV (u0 := .int .i64 x.f0) (u1 := .string x.f1) (u2 := .string x.f2) (u3 := .string x.f3) (u4 := .slice A4 x.f4.length c4) (u5 := .slice A5 x.f5.length c5) (u6 := .slice A8 s.length c8) (u7 := .string x.f7) (spec_l10Turn.vb (b' := 0) V4.out HB.out) (fun k_ h_ => Nat.ne_of_lt (Nat.lt_of_lt_of_le h_.2 (Nat.le_trans GX.out (Nat.le_of_lt GR.out))))) (fun _ h_ => .inl h_.1), Kd.V_mono (spec_l10Turn.finV (u0 := .int .i64 x.f0) (u1 := .string x.f1) (u2 := .string x.f2) (u3 := .string x.f3) (u4 := .slice A4 x.f4.length c4) (u5 := .slice A5 x.f5.length c5) (u6 := .slice A8 s.length c8) (u7 := .string x.f7) (spec_l10Turn.vb (b' := 0) V5.out HB.out) (fun k_ h_ => Nat.ne_of_lt (Nat.lt_of_lt_of_le h_.2 (Nat.le_trans GX.out (Nat.le_of_lt GR.out))))) (fun _ h_ => .inl h_.1), Kd.V_mono (spec_l10Turn.finV (b := 0) (u0 := .int .i64 x.f0) (u1 := .string x.f1) (u2 := .string x.f2) (u3 := .string x.f3) (u4 := .slice A4 x.f4.length c4) (u5 := .slice A5 x.f5.length c5) (u6 := .slice A8 s.length c8) (u7 := .string x.f7) (Kd.R_V H8.out) (fun k_ h_ => Nat.ne_of_gt (Nat.lt_trans GO.out (Nat.lt_of_lt_of_le HN6.out h_.2.1)))) (fun k_ h_ => .inr (Nat.le_trans (Nat.le_trans GX.out (Nat.le_trans (Nat.le_of_lt GR.out) (Nat.le_of_lt GO.out))) (Nat.le_trans (Nat.le_of_lt HN6.out) h_.2.1))), spec_l10Turn.ch8 HB.out (Nat.le_trans GX.out (Nat.le_of_lt GR.out))⟩
  | cons p ps =>
    obtain ⟨pc_, h⟩ := if_som h
    obtain ⟨p0, p1, pz⟩ := pc_
    replace h := Option.bind_eq_some_iff.1 h
    obtain ⟨y, hy, h⟩ := h
    simp only [Option.some.injEq] at h
    subst h
    have TY := Aside0.mk hy
    have HZ := Aside0.mk pz
    clear hy pz
    obtain ⟨pa, hpa⟩ : ∃ pa : List Int, pa = p :: ps := ⟨_, rfl⟩
    rw [← hpa] at HRp HCp ⊢
    have hl1 : pa.length = ps.length + 1 := by rw [hpa]; rfl
    have hl0 : ((pa.length : Int) == 0) = false := beq_eq_false_iff_ne.mpr (by omega)
    have HL1 := Aside0.mk hl1
    have HPA := Aside0.mk hpa
    have P01 := Aside0.mk (And.intro p0 p1)
    clear hl1 hpa p0 p1
    go_enter Try.func23, Try.ntmps23
    go_upto_region 6 with (first
      | ((with_reducible refine gate_dst (N := 5) rfl ?_); refine box_event ?hg (N := 5) ?hd (cs := #[.int .i64 x.f0, .string x.f1, .string x.f2, .string x.f3, .slice A4 x.f4.length c4, .slice A5 x.f5.length c5, .slice A6 x.f6.length c6, .string x.f7]) (t := 34) ?hr ?_; (case hd => rfl); (case hg => rfl); (case hr => first | (go_simp; done) | (go_simp; rfl)); intro gx hg w1 hbox hb; have BX := Aside0.mk hbox; have GX := Aside0.mk (show w.heap.size ≤ gx from Nat.le_of_eq hg.symm); replace HB := Aside0.mk (below_step HB.out hb); clear hb hbox hg)
      | ((with_reducible refine gate_dst (N := 10) rfl ?_); refine box_event ?hg (N := 10) ?hd (cs := #[.int .i64 0, .string (⟨#[]⟩ : ByteArray), .string (⟨#[]⟩ : ByteArray), .string (⟨#[]⟩ : ByteArray), .slice none 0 0, .slice none 0 0, .slice none 0 0, .string (⟨#[]⟩ : ByteArray)]) (t := 34) ?hr ?_; (case hd => rfl); (case hg => rfl); (case hr => first | (go_simp; done) | (go_simp; rfl)); intro gR hg w1 hbox hb; have BR := Aside0.mk hbox; have GR := Aside0.mk (show gx < gR by rw [hg]; exact blk_lt BX.out); replace BX := Aside0.mk (blk_below BX.out hb); replace HB := Aside0.mk (below_step HB.out hb); clear hb hbox hg; obtain ⟨zx0, zx1, zx2, zx3, zx4, zx5, zx6, zx7⟩ := bc8 BX.out)
      | ((with_reducible refine gate_dst (N := 11) rfl ?_); refine box_event ?hg (N := 11) ?hd (cs := #[.int .i64 0, .string (⟨#[]⟩ : ByteArray), .string (⟨#[]⟩ : ByteArray), .string (⟨#[]⟩ : ByteArray), .slice none 0 0, .slice none 0 0, .slice none 0 0, .string (⟨#[]⟩ : ByteArray)]) (t := 34) ?hr ?_; (case hd => rfl); (case hg => rfl); (case hr => first | (go_simp; done) | (go_simp; rfl)); intro gO hg w1 hbox hb; have BO := Aside0.mk hbox; have GO := Aside0.mk (show gR < gO by rw [hg]; exact blk_lt BR.out); have HX := Aside0.mk (spec_l10Turn.ch8 (u0 := .int .i64 x.f0) (u1 := .string x.f1) (u2 := .string x.f2) (u3 := .string x.f3) (u4 := .slice A4 x.f4.length c4) (u5 := .slice A5 x.f5.length c5) (u6 := .slice A6 x.f6.length c6) (u7 := .string x.f7) hb (Nat.le_of_eq hg.symm)); obtain ⟨zk0, zk1, zk2, zk3, zk4, zk5, zk6, zk7⟩ := bc8 hbox; obtain ⟨yk0, yk1, yk2, yk3, yk4, yk5, yk6, yk7⟩ := bf8 hbox; skip; clear hb hbox hg))
    try simp only [Act.put, sT, sZ, sS, i64_w, i32_w]
    replace BO := Aside0.mk (put8 (b0 := .int .i64 x.f0) (b1 := .string x.f1) (b2 := .string x.f2) (b3 := .string x.f3) (b4 := .slice A4 x.f4.length c4) (b5 := .slice A5 x.f5.length c5) (b6 := .slice A6 x.f6.length c6) (b7 := .string x.f7) BO.out)
    replace BX := Aside0.mk (blk_below BX.out HX.out)
    replace BR := Aside0.mk (blk_below BR.out HX.out)
    replace HB := Aside0.mk (below_step HB.out HX.out)
    clear HX zk0 zk1 zk2 zk3 zk4 zk5 zk6 zk7 yk0 yk1 yk2 yk3 yk4 yk5 yk6 yk7 zx0 zx1 zx2 zx3 zx4 zx5 zx6 zx7
    generalize World.setCell _ _ _ = w8 at BO BX BR HB ⊢
    go_upto_region 7 with (first
      | ((with_reducible refine gate_dst (N := 34) rfl ?_); refine Kd.R_lit k34 _ 34 ?hg (N := 34) ?hd (xs := ([] : List S34)) (inner := []) (ok := fun _ => True) (okp := fun _ => True) ?hr ?hp (fun _ hk => hk) trivial (Below.refl _ _) (Nat.le_refl _) (by simp) ?_; (case hd => rfl); (case hg => rfl); (case hr => first | (go_simp; done) | (go_simp; rfl)); (case hp => exact (Reps.none _ _)); intro v3 w3 ho hb hg_ hnew_; clear hg_ hnew_; obtain ⟨N1, hN1, ho⟩ : ∃ N1 : Nat, (gO < N1 ∧ N1 ≤ w3.heap.size ∧ w.heap.size ≤ N1) ∧ Kd.N k34 34 w3 N1 (fun k_ => (P k_ ∧ k_ < w.heap.size) ∨ N1 ≤ k_) v3 ([] : List S34) := ⟨_, ⟨blk_lt BO.out, hb.size, HB.out.size⟩, Kd.N_mono (Kd.R_N (Kd.R_bound ho)) (fun _ h_ => .inr h_.2.1)⟩; have HN1 := Aside0.mk hN1; have HO := Aside0.mk ho; have HSZ := Aside0.mk hN1.2.1; replace BX := Aside0.mk (blk_below BX.out hb); replace BO := Aside0.mk (blk_below BO.out hb); replace BR := Aside0.mk (blk_below BR.out hb); replace HB := Aside0.mk (below_step HB.out hb); clear hb ho hN1; obtain ⟨zx0, zx1, zx2, zx3, zx4, zx5, zx6, zx7⟩ := bc8 BX.out; obtain ⟨A3, c3, e_⟩ := Kd.N_slice HO.out; subst e_)
      | ((with_reducible refine gate_builtin (b := .append) (xs := #[.tmp 34, .tmp 36]) rfl ?_); at_builtin; refine Kd.N_append_rows k34 (w0 := _) N1 rfl (.tmp 34) (.tmp 36) 32 34 (.agg #[(.int .i64 0), (.string ⟨#[]⟩), (.string ⟨#[]⟩), (.string ⟨#[]⟩), (.slice none 0 0), (.slice none 0 0), (.slice none 0 0), (.string ⟨#[]⟩)]) 144 rfl Try.underlying32 info34 rfl (by decide) (by omega) (.slice A3 ([] : List S34).length c3) [] x.f6 A6 x.f6.length c6 (fun k_ => (P k_ ∧ k_ < w.heap.size) ∨ N1 ≤ k_) (fun k_ => P k_ ∧ k_ < w.heap.size) rfl rfl HO.out (Kd.V_F (spec_l10Turn.vb (b' := 0) V6.out HB.out)) ?aK ?aF (Below.refl _ _) ?aS ?aL ?_; (case aK => exact fun k_ h_ => ⟨.inl h_, fun e_ => Nat.not_lt.2 (Nat.le_trans HN1.out.2.2 (Kd.N_base HO.out k_ e_.symm)) h_.2⟩); (case aF => exact fun k_ h_ => .inr (Nat.le_trans HSZ.out h_)); (case aS => exact HSZ.out); (case aL => have := HZ.out; show (0 + x.f6.length) * 144 ≤ _; omega); intro v9 w9 ho hb hg hat; have hbo := Kd.N_base HO.out; replace BX := Aside0.mk (blk_grown BX.out hg (fun e_ => absurd (hbo _ e_.symm) (Nat.not_le.2 (Nat.lt_trans GR.out (Nat.lt_trans GO.out HN1.out.1))))); replace BR := Aside0.mk (blk_grown BR.out hg (fun e_ => absurd (hbo _ e_.symm) (Nat.not_le.2 (Nat.lt_trans GO.out HN1.out.1)))); replace BO := Aside0.mk (blk_grown BO.out hg (fun e_ => absurd (hbo _ e_.symm) (Nat.not_le.2 HN1.out.1))); replace HB := Aside0.mk (pw_below_grown HB.out _ HB.out.size hg (fun k_ e_ => Nat.le_trans HN1.out.2.2 (hbo k_ e_))); replace HO := Aside0.mk (show Kd.N k34 34 w9 N1 (fun k_ => (P k_ ∧ k_ < w.heap.size) ∨ N1 ≤ k_) v9 x.f6 from ho); clear ho hb hg hat hbo HSZ zx0 zx1 zx2 zx3 zx4 zx5 zx6 zx7; obtain ⟨A9, c9, e_⟩ := Kd.N_slice HO.out; subst e_; have z6 := blk_cell BO.out 6; have y6 := blk_frozen BO.out 6))
    try simp only [Act.put, sT, sZ, sS, i64_w, i32_w]
    clear z6 y6
    replace BO := Aside0.mk (blk_put (cs' := #[.int .i64 x.f0, .string x.f1, .string x.f2, .string x.f3, .slice A4 x.f4.length c4, .slice A5 x.f5.length c5, .slice A9 x.f6.length c9, .string x.f7]) BO.out 6 (.slice A9 x.f6.length c9) rfl)
    replace BX := Aside0.mk (blk_far BX.out (p := ⟨gO, 6, none⟩) (Nat.ne_of_lt (Nat.lt_trans GR.out GO.out)) (.slice A9 x.f6.length c9))
    replace BR := Aside0.mk (blk_far BR.out (p := ⟨gO, 6, none⟩) (Nat.ne_of_lt GO.out) (.slice A9 x.f6.length c9))
    replace HO := Aside0.mk (Kd.N_far (p := ⟨gO, 6, none⟩) HO.out (fun k_ h_ => h_.elim (fun h2_ => Nat.ne_of_lt (Nat.lt_of_lt_of_le h2_.2 (Nat.le_trans GX.out (Nat.le_trans (Nat.le_of_lt GR.out) (Nat.le_of_lt GO.out))))) (fun h2_ => Nat.ne_of_gt (Nat.lt_of_lt_of_le HN1.out.1 h2_))) (.slice A9 x.f6.length c9))
    replace HB := Aside0.mk (below_set (j := 6) (v := .slice A9 x.f6.length c9) HB.out (Nat.le_trans GX.out (Nat.le_trans (Nat.le_of_lt GR.out) (Nat.le_of_lt GO.out))))
    generalize World.setCell _ _ _ = w10 at BO BX BR HO HB ⊢
    obtain ⟨p0, p1⟩ := P01.out
    have hl1 := HL1.out
    have hpa := HPA.out
    obtain ⟨ad, cc, eA, hcl_, hK_, hcc⟩ := Kd.C_get (Kd.C_below HRp.out HB.out) 0 0 (by omega) (by omega)
    cases hK_
    subst eA
    have hpv : pa.getD (Int.toNat 0) 0 = p := by rw [hpa]; rfl
    have zp : World.cell? w10 ad = some (.int .i64 p) := by rw [← hpv]; exact hcc 0 _ rfl
    clear hcc hcl_ hpv
    obtain ⟨i0, hi0, -, hsz, -⟩ := info_parts info3
    have hcut := cut_from (P := Try.prog) 27 3 .i64 Try.underlying27 hi0 1 hsz (some ad) pa.length cp 1 (by omega) (by omega)
    have hdr := Kd.C_drop (c := cp) (Kd.C_below HRp.out HB.out) (m := (1 : Int).toNat) (by show 1 ≤ _; omega) HCp.out
    have hps : pa.drop (1 : Int).toNat = ps := by rw [hpa]; rfl
    rw [hps] at hdr
    obtain ⟨A', hA'⟩ : ∃ A1, A1 = (if cp = (1 : Int).toNat then some ad else (some ad : Option Addr).map (·.add ((1 : Int).toNat * 1))) := ⟨_, rfl⟩
    obtain ⟨c', hc'⟩ : ∃ c1, c1 = cp - (1 : Int).toNat := ⟨_, rfl⟩
    have hn' : pa.length - (1 : Int).toNat = ps.length := by show pa.length - 1 = _; omega
    rw [hn', ← hA', ← hc'] at hcut
    replace hdr : Kd.C (Kd.int .i64) w10 A' ps.length ps := by rw [hA']; exact hdr
    have HPS := Aside0.mk hdr
    have HCS := Aside0.mk (show ps.length ≤ c' by have := HCp.out; rw [hc']; show ps.length ≤ cp - 1; omega)
    clear hdr hA' hc' hn' hps hi0 hsz
    have q0 : (0 : Int) < (pa.length : Int) := by omega
    have q1 := eq_true (show 0 < pa.length by omega)
    clear hl1 hpa
    obtain ⟨ad6, cc6, eA6, -, -, -⟩ := Kd.C_get (Kd.V_reads' V6.out).2.2 z34 p p0 p1
    subst eA6
    obtain ⟨cs, -, hFK, hcc⟩ := Kd.V_get (spec_l10Turn.vb (b' := 0) V6.out HB.out) z34 p p0 p1
    obtain ⟨F4, g4, F5, g5, F6, g6, rfl, l4, G4, l5, G5, l6, G6⟩ := k34_openF hFK
    have E4 := Aside0.mk (Kd.V_mk (e := 69) (base := 0) l4 G4)
    have E5 := Aside0.mk (Kd.V_mk (e := 71) (base := 0) l5 G5)
    have E6 := Aside0.mk (Kd.V_mk (e := 34) (base := 0) l6 G6)
    have x0 : World.cell? (World.drew w10) (ad6.add (p.toNat * 8)) = some (.int .i64 (rd_T34 x.f6 p).f0) := hcc 0 _ rfl
    have x1 : World.cell? (World.drew w10) ⟨(ad6.add (p.toNat * 8)).block, (ad6.add (p.toNat * 8)).off + 1, none⟩ = some (.string (rd_T34 x.f6 p).f1) := by rw [← add_field _ _ 1 (by omega)]; exact hcc 1 _ rfl
    have x2 : World.cell? (World.drew w10) ⟨(ad6.add (p.toNat * 8)).block, (ad6.add (p.toNat * 8)).off + 2, none⟩ = some (.string (rd_T34 x.f6 p).f2) := by rw [← add_field _ _ 2 (by omega)]; exact hcc 2 _ rfl
    have x3 : World.cell? (World.drew w10) ⟨(ad6.add (p.toNat * 8)).block, (ad6.add (p.toNat * 8)).off + 3, none⟩ = some (.string (rd_T34 x.f6 p).f3) := by rw [← add_field _ _ 3 (by omega)]; exact hcc 3 _ rfl
    have x4 : World.cell? (World.drew w10) ⟨(ad6.add (p.toNat * 8)).block, (ad6.add (p.toNat * 8)).off + 4, none⟩ = some (.slice F4 (rd_T34 x.f6 p).f4.length g4) := by rw [← add_field _ _ 4 (by omega)]; exact hcc 4 _ rfl
    have x5 : World.cell? (World.drew w10) ⟨(ad6.add (p.toNat * 8)).block, (ad6.add (p.toNat * 8)).off + 5, none⟩ = some (.slice F5 (rd_T34 x.f6 p).f5.length g5) := by rw [← add_field _ _ 5 (by omega)]; exact hcc 5 _ rfl
    have x6 : World.cell? (World.drew w10) ⟨(ad6.add (p.toNat * 8)).block, (ad6.add (p.toNat * 8)).off + 6, none⟩ = some (.slice F6 (rd_T34 x.f6 p).f6.length g6) := by rw [← add_field _ _ 6 (by omega)]; exact hcc 6 _ rfl
    have x7 : World.cell? (World.drew w10) ⟨(ad6.add (p.toNat * 8)).block, (ad6.add (p.toNat * 8)).off + 7, none⟩ = some (.string (rd_T34 x.f6 p).f7) := by rw [← add_field _ _ 7 (by omega)]; exact hcc 7 _ rfl
    clear hFK hcc l4 G4 l5 G5 l6 G6
    obtain ⟨gk, cap, ev, hgk1, hgk2, -⟩ := Kd.N_form HO.out (by omega)
    injection ev with ev1 ev2 ev3
    subst ev1 ev3
    clear ev2
    have HGK := Aside0.mk (And.intro hgk1 hgk2)
    clear hgk1 hgk2
    replace zp : World.cell? (World.drew w10) ad = some (.int .i64 p) := zp
    replace p0 := eq_true p0
    replace p1 := eq_true p1
    replace q0 := eq_true q0
    have hdw := below_drew (Below.refl w10.heap.size w10)
    replace HO := Aside0.mk (Kd.N_below HO.out hdw)
    replace BX := Aside0.mk (blk_below BX.out hdw)
    replace BO := Aside0.mk (blk_below BO.out hdw)
    replace BR := Aside0.mk (blk_below BR.out hdw)
    replace HPS := Aside0.mk (Kd.C_below HPS.out hdw)
    replace E4 := Aside0.mk (spec_l10Turn.vb (b' := 0) E4.out hdw)
    replace E5 := Aside0.mk (spec_l10Turn.vb (b' := 0) E5.out hdw)
    replace E6 := Aside0.mk (spec_l10Turn.vb (b' := 0) E6.out hdw)
    replace HB := Aside0.mk (below_step HB.out hdw)
    replace HGK := Aside0.mk (show N1 ≤ gk ∧ gk < (World.drew w10).heap.size from HGK.out)
    clear hdw
    refine start_ (n := 20) (S := fun w' => w'.cell? ⟨gO, 6, none⟩ = some (.slice (some ⟨gk, 0, none⟩) x.f6.length c9) ∧ w'.cell? ⟨gx, 6, none⟩ = some (.slice (some ad6) x.f6.length c6) ∧ w'.cell? ad = some (.int .i64 p) ∧ w'.cell? (ad6.add (p.toNat * 8)) = some (.int .i64 (rd_T34 x.f6 p).f0) ∧ w'.cell? ⟨(ad6.add (p.toNat * 8)).block, (ad6.add (p.toNat * 8)).off + 1, none⟩ = some (.string (rd_T34 x.f6 p).f1) ∧ w'.cell? ⟨(ad6.add (p.toNat * 8)).block, (ad6.add (p.toNat * 8)).off + 2, none⟩ = some (.string (rd_T34 x.f6 p).f2) ∧ w'.cell? ⟨(ad6.add (p.toNat * 8)).block, (ad6.add (p.toNat * 8)).off + 3, none⟩ = some (.string (rd_T34 x.f6 p).f3) ∧ w'.cell? ⟨(ad6.add (p.toNat * 8)).block, (ad6.add (p.toNat * 8)).off + 4, none⟩ = some (.slice F4 (rd_T34 x.f6 p).f4.length g4) ∧ w'.cell? ⟨(ad6.add (p.toNat * 8)).block, (ad6.add (p.toNat * 8)).off + 5, none⟩ = some (.slice F5 (rd_T34 x.f6 p).f5.length g5) ∧ w'.cell? ⟨(ad6.add (p.toNat * 8)).block, (ad6.add (p.toNat * 8)).off + 6, none⟩ = some (.slice F6 (rd_T34 x.f6 p).f6.length g6) ∧ w'.cell? ⟨(ad6.add (p.toNat * 8)).block, (ad6.add (p.toNat * 8)).off + 7, none⟩ = some (.string (rd_T34 x.f6 p).f7)) (ds := [19]) #[false, false, false, false, false, false, false, false, false, false, false, false, false, false, false, false, false, false, false, false] (by kernel_rfl) rfl rfl ⟨(blk_cell BO.out 6).trans rfl, (blk_cell BX.out 6).trans rfl, zp, x0, x1, x2, x3, x4, x5, x6, x7⟩ (fun hHeld => ?_)
    generalize World.drew _ = w5 at HO E4 E5 E6 BX BO BR HPS HB HGK zp x0 x1 x2 x3 x4 x5 x6 x7 hHeld ⊢
    refine pure_ (i := 0) (N := some 39) (v := ?_) (a' := ?_) #[true, false, false, false, false, false, false, false, false, false, false, false, false, false, false, false, false, false, false, false] rfl rfl (by kernel_rfl) (fun _ _ _ h => h) (Or.inl ⟨by rfl, ?_⟩) ?_ ?_
    rotate_left
    · intro w'
      go_simp
      with_reducible rfl
    rotate_left
    · simp only [Act.put, sT, sZ, sS, i64_w, i32_w]
      rfl
    refine take_ (i := 1) (N := some 40) (v := ?_) (a' := ?_) #[true, true, false, false, false, false, false, false, false, false, false, false, false, false, false, false, false, false, false, false] rfl rfl (by kernel_rfl) (fun _ _ _ h => h) (Or.inl ⟨by rfl, ?_⟩) hHeld ?_ ?_
    rotate_left
    · rintro w' ⟨q0_, q1_, q2_, q3_, q4_, q5_, q6_, q7_, q8_, q9_, q10_⟩
      go_simp
      with_reducible rfl
    rotate_left
    · simp only [Act.put, sT, sZ, sS, i64_w, i32_w]
      rfl
    refine pure_ (i := 2) (N := some 41) (v := ?_) (a' := ?_) #[true, true, true, false, false, false, false, false, false, false, false, false, false, false, false, false, false, false, false, false] rfl rfl (by kernel_rfl) (fun _ _ _ h => h) (Or.inl ⟨by rfl, ?_⟩) ?_ ?_
    rotate_left
    · intro w'
      go_simp
      with_reducible rfl
    rotate_left
    · simp only [Act.put, sT, sZ, sS, i64_w, i32_w]
      rfl
    refine pure_ (i := 3) (N := some 42) (v := ?_) (a' := ?_) #[true, true, true, true, false, false, false, false, false, false, false, false, false, false, false, false, false, false, false, false] rfl rfl (by kernel_rfl) (fun _ _ _ h => h) (Or.inl ⟨by rfl, ?_⟩) ?_ ?_
    rotate_left
    · intro w'
      go_simp
      with_reducible rfl
    rotate_left
    · simp only [Act.put, sT, sZ, sS, i64_w, i32_w]
      rfl
    refine take_ (i := 4) (N := some 43) (v := ?_) (a' := ?_) #[true, true, true, true, true, false, false, false, false, false, false, false, false, false, false, false, false, false, false, false] rfl rfl (by kernel_rfl) (fun _ _ _ h => h) (Or.inl ⟨by rfl, ?_⟩) hHeld ?_ ?_
    rotate_left
    · rintro w' ⟨q0_, q1_, q2_, q3_, q4_, q5_, q6_, q7_, q8_, q9_, q10_⟩
      go_simp
      with_reducible rfl
    rotate_left
    · simp only [Act.put, sT, sZ, sS, i64_w, i32_w]
      rfl
    refine pure_ (i := 5) (N := some 44) (v := ?_) (a' := ?_) #[true, true, true, true, true, true, false, false, false, false, false, false, false, false, false, false, false, false, false, false] rfl rfl (by kernel_rfl) (fun _ _ _ h => h) (Or.inl ⟨by rfl, ?_⟩) ?_ ?_
    rotate_left
    · intro w'
      go_simp
      with_reducible rfl
    rotate_left
    · simp only [Act.put, sT, sZ, sS, i64_w, i32_w]
      rfl
    refine take_ (i := 6) (N := some 45) (v := ?_) (a' := ?_) #[true, true, true, true, true, true, true, false, false, false, false, false, false, false, false, false, false, false, false, false] rfl rfl (by kernel_rfl) (fun _ _ _ h => h) (Or.inl ⟨by rfl, ?_⟩) hHeld ?_ ?_
    rotate_left
    · rintro w' ⟨q0_, q1_, q2_, q3_, q4_, q5_, q6_, q7_, q8_, q9_, q10_⟩
      go_simp
      with_reducible rfl
    rotate_left
    · simp only [Act.put, sT, sZ, sS, i64_w, i32_w]
      rfl
    refine pure_ (i := 7) (N := some 46) (v := ?_) (a' := ?_) #[true, true, true, true, true, true, true, true, false, false, false, false, false, false, false, false, false, false, false, false] rfl rfl (by kernel_rfl) (fun _ _ _ h => h) (Or.inl ⟨by rfl, ?_⟩) ?_ ?_
    rotate_left
    · intro w'
      go_simp
      with_reducible rfl
    rotate_left
    · simp only [Act.put, sT, sZ, sS, i64_w, i32_w]
      rfl
    refine pure_ (i := 8) (N := some 47) (v := ?_) (a' := ?_) #[true, true, true, true, true, true, true, true, true, false, false, false, false, false, false, false, false, false, false, false] rfl rfl (by kernel_rfl) (fun _ _ _ h => h) (Or.inl ⟨by rfl, ?_⟩) ?_ ?_
    rotate_left
    · intro w'
      go_simp
      with_reducible rfl
    rotate_left
    · simp only [Act.put, sT, sZ, sS, i64_w, i32_w]
      rfl
    refine take_ (i := 9) (N := some 48) (v := ?_) (a' := ?_) #[true, true, true, true, true, true, true, true, true, true, false, false, false, false, false, false, false, false, false, false] rfl rfl (by kernel_rfl) (fun _ _ _ h => h) (Or.inl ⟨by rfl, ?_⟩) hHeld ?_ ?_
    rotate_left
    · rintro w' ⟨q0_, q1_, q2_, q3_, q4_, q5_, q6_, q7_, q8_, q9_, q10_⟩
      go_simp
      with_reducible rfl
    rotate_left
    · simp only [Act.put, sT, sZ, sS, i64_w, i32_w]
      rfl
    refine pure_ (i := 10) (N := some 49) (v := ?_) (a' := ?_) #[true, true, true, true, true, true, true, true, true, true, true, false, false, false, false, false, false, false, false, false] rfl rfl (by kernel_rfl) (fun _ _ _ h => h) (Or.inl ⟨by rfl, ?_⟩) ?_ ?_
    rotate_left
    · intro w'
      go_simp
      with_reducible rfl
    rotate_left
    · simp only [Act.put, sT, sZ, sS, i64_w, i32_w]
      rfl
    refine take_ (i := 11) (N := some 50) (v := ?_) (a' := ?_) #[true, true, true, true, true, true, true, true, true, true, true, true, false, false, false, false, false, false, false, false] rfl rfl (by kernel_rfl) (fun _ _ _ h => h) (Or.inl ⟨by rfl, ?_⟩) hHeld ?_ ?_
    rotate_left
    · rintro w' ⟨q0_, q1_, q2_, q3_, q4_, q5_, q6_, q7_, q8_, q9_, q10_⟩
      go_simp
      with_reducible rfl
    rotate_left
    · simp only [Act.put, sT, sZ, sS, i64_w, i32_w]
      rfl
    refine pure_ (i := 12) (N := some 51) (v := ?_) (a' := ?_) #[true, true, true, true, true, true, true, true, true, true, true, true, true, false, false, false, false, false, false, false] rfl rfl (by kernel_rfl) (fun _ _ _ h => h) (Or.inl ⟨by rfl, ?_⟩) ?_ ?_
    rotate_left
    · intro w'
      go_simp
      with_reducible rfl
    rotate_left
    · simp only [Act.put, sT, sZ, sS, i64_w, i32_w]
      rfl
    refine pure_ (i := 13) (N := some 52) (v := ?_) (a' := ?_) #[true, true, true, true, true, true, true, true, true, true, true, true, true, true, false, false, false, false, false, false] rfl rfl (by kernel_rfl) (fun _ _ _ h => h) (Or.inl ⟨by rfl, ?_⟩) ?_ ?_
    rotate_left
    · intro w'
      go_simp
      with_reducible rfl
    rotate_left
    · simp only [Act.put, sT, sZ, sS, i64_w, i32_w]
      rfl
    refine pure_ (i := 14) (N := some 53) (v := ?_) (a' := ?_) #[true, true, true, true, true, true, true, true, true, true, true, true, true, true, true, false, false, false, false, false] rfl rfl (by kernel_rfl) (fun _ _ _ h => h) (Or.inl ⟨by rfl, ?_⟩) ?_ ?_
    rotate_left
    · intro w'
      go_simp
      with_reducible rfl
    rotate_left
    · simp only [Act.put, sT, sZ, sS, i64_w, i32_w]
      rfl
    refine pure_ (i := 15) (N := some 54) (v := ?_) (a' := ?_) #[true, true, true, true, true, true, true, true, true, true, true, true, true, true, true, true, false, false, false, false] rfl rfl (by kernel_rfl) (fun _ _ _ h => h) (Or.inl ⟨by rfl, ?_⟩) ?_ ?_
    rotate_left
    · intro w'
      go_simp
      with_reducible rfl
    rotate_left
    · simp only [Act.put, sT, sZ, sS, i64_w, i32_w]
      rfl
    refine pure_ (i := 16) (N := some 55) (v := ?_) (a' := ?_) #[true, true, true, true, true, true, true, true, true, true, true, true, true, true, true, true, true, false, false, false] rfl rfl (by kernel_rfl) (fun _ _ _ h => h) (Or.inl ⟨by rfl, ?_⟩) ?_ ?_
    rotate_left
    · intro w'
      go_simp
      with_reducible rfl
    rotate_left
    · simp only [Act.put, sT, sZ, sS, i64_w, i32_w]
      rfl
    refine one_ (i := 17) (N := some 56) #[true, true, true, true, true, true, true, true, true, true, true, true, true, true, true, true, true, true, false, false] rfl rfl (by kernel_rfl) (by decide) (fun K hK => ?_)
    refine goes_ Try.func23 (by kernel_rfl) rfl #[.agg #[.int .i64 (rd_T34 x.f6 p).f0, .string (rd_T34 x.f6 p).f1, .string (rd_T34 x.f6 p).f2, .string (rd_T34 x.f6 p).f3, .slice F4 (rd_T34 x.f6 p).f4.length g4, .slice F5 (rd_T34 x.f6 p).f5.length g5, .slice F6 (rd_T34 x.f6 p).f6.length g6, .string (rd_T34 x.f6 p).f7], .slice A' ps.length c', .int .i64 i, .int .i64 i, .slice Al l.length cl] (by rfl) rfl rfl mA ?_
    refine (IH.out (fun k_ => P k_ ∧ k_ < w.heap.size) (rd_T34 x.f6 p) F4 g4 F5 g5 F6 g6 A' c' ps i Al cl l y _ (spec_l10Turn.vb E4.out (Below.refl _ _)) (spec_l10Turn.vb E5.out (Below.refl _ _)) (spec_l10Turn.vb E6.out (Below.refl _ _)) HPS.out HCS.out (spec_l10Turn.vb VL.out HB.out) TY.out).mono ?_
    rintro e w7 ⟨v4, v5, v6, rfl, h4, h5, h6, hb⟩
    refine ⟨_, rfl, ?_⟩
    obtain ⟨N2, hN2, h4, h5, h6⟩ : ∃ N2 : Nat, (gk < N2 ∧ N1 ≤ gk) ∧ Kd.V k69 69 w7 0 (fun k_ => (fun k_ => P k_ ∧ k_ < w.heap.size) k_ ∨ N2 ≤ k_) v4 y.f4 ∧ Kd.V k71 71 w7 0 (fun k_ => (fun k_ => P k_ ∧ k_ < w.heap.size) k_ ∨ N2 ≤ k_) v5 y.f5 ∧ Kd.V k34 34 w7 0 (fun k_ => (fun k_ => P k_ ∧ k_ < w.heap.size) k_ ∨ N2 ≤ k_) v6 y.f6 := ⟨_, ⟨HGK.out.2, HGK.out.1⟩, h4, h5, h6⟩
    have HN2 := Aside0.mk hN2
    have K4 := Aside0.mk h4
    have K5 := Aside0.mk h5
    have K6 := Aside0.mk h6
    replace x0 := pw_cell_below hb x0
    replace x1 := pw_cell_below hb x1
    replace x2 := pw_cell_below hb x2
    replace x3 := pw_cell_below hb x3
    replace x4 := pw_cell_below hb x4
    replace x5 := pw_cell_below hb x5
    replace x6 := pw_cell_below hb x6
    replace x7 := pw_cell_below hb x7
    replace zp := pw_cell_below hb zp
    replace HO := Aside0.mk (Kd.N_below HO.out hb)
    replace BX := Aside0.mk (blk_below BX.out hb)
    replace BO := Aside0.mk (blk_below BO.out hb)
    replace BR := Aside0.mk (blk_below BR.out hb)
    replace HB := Aside0.mk (below_step HB.out hb)
    clear h4 h5 h6 hb hN2 E4 E5 E6 HPS HGK
    obtain ⟨Q4, m4, e_⟩ := Kd.V_slice K4.out; subst e_
    obtain ⟨Q5, m5, e_⟩ := Kd.V_slice K5.out; subst e_
    obtain ⟨Q6, m6, e_⟩ := Kd.V_slice K6.out; subst e_
    refine hK.out _ _ ⟨(blk_cell BO.out 6).trans rfl, (blk_cell BX.out 6).trans rfl, zp, x0, x1, x2, x3, x4, x5, x6, x7⟩ (fun hHeld => ?_)
    clear hK K
    refine norm_ (a' := ?_) ?_ ?_
    rotate_left
    · show Act.put _ (some 56) _ = _
      simp only [Act.put, sT, sZ, sS, i64_w, i32_w]
      rfl
    refine pure_ (i := 18) (N := some 57) (v := ?_) (a' := ?_) #[true, true, true, true, true, true, true, true, true, true, true, true, true, true, true, true, true, true, true, false] rfl rfl (by kernel_rfl) (fun _ _ _ h => h) (Or.inl ⟨by rfl, ?_⟩) ?_ ?_
    rotate_left
    · intro w'
      go_simp
      with_reducible rfl
    rotate_left
    · simp only [Act.put, sT, sZ, sS, i64_w, i32_w]
      rfl
    obtain ⟨cs2, -, hFK2, hcc2, hfr⟩ := Kd.N_elem HO.out z34 p P01.out.1 P01.out.2
    obtain ⟨R4, r4, R5, r5, R6, r6, rfl, -, -, -, -, -, -⟩ := k34_openF hFK2
    have d0 : World.cell? w7 ⟨gk, p.toNat * 8, none⟩ = some (.int .i64 (rd_T34 x.f6 p).f0) := hcc2 0 _ rfl
    have d1 : World.cell? w7 ⟨gk, p.toNat * 8 + 1, none⟩ = some (.string (rd_T34 x.f6 p).f1) := hcc2 1 _ rfl
    have d2 : World.cell? w7 ⟨gk, p.toNat * 8 + 2, none⟩ = some (.string (rd_T34 x.f6 p).f2) := hcc2 2 _ rfl
    have d3 : World.cell? w7 ⟨gk, p.toNat * 8 + 3, none⟩ = some (.string (rd_T34 x.f6 p).f3) := hcc2 3 _ rfl
    have d4 : World.cell? w7 ⟨gk, p.toNat * 8 + 4, none⟩ = some (.slice R4 (rd_T34 x.f6 p).f4.length r4) := hcc2 4 _ rfl
    have d5 : World.cell? w7 ⟨gk, p.toNat * 8 + 5, none⟩ = some (.slice R5 (rd_T34 x.f6 p).f5.length r5) := hcc2 5 _ rfl
    have d6 : World.cell? w7 ⟨gk, p.toNat * 8 + 6, none⟩ = some (.slice R6 (rd_T34 x.f6 p).f6.length r6) := hcc2 6 _ rfl
    have d7 : World.cell? w7 ⟨gk, p.toNat * 8 + 7, none⟩ = some (.string (rd_T34 x.f6 p).f7) := hcc2 7 _ rfl
    clear hFK2 hcc2
    have f0 : World.frozen? w7 ⟨gk, p.toNat * 8, none⟩ = false := hfr 0
    have f1 : World.frozen? w7 ⟨gk, p.toNat * 8 + 1, none⟩ = false := hfr 1
    have f2 : World.frozen? w7 ⟨gk, p.toNat * 8 + 2, none⟩ = false := hfr 2
    have f3 : World.frozen? w7 ⟨gk, p.toNat * 8 + 3, none⟩ = false := hfr 3
    have f4 : World.frozen? w7 ⟨gk, p.toNat * 8 + 4, none⟩ = false := hfr 4
    have f5 : World.frozen? w7 ⟨gk, p.toNat * 8 + 5, none⟩ = false := hfr 5
    have f6 : World.frozen? w7 ⟨gk, p.toNat * 8 + 6, none⟩ = false := hfr 6
    have f7 : World.frozen? w7 ⟨gk, p.toNat * 8 + 7, none⟩ = false := hfr 7
    clear hfr
    refine last_ (i := 19) (N := none) #[true, true, true, true, true, true, true, true, true, true, true, true, true, true, true, true, true, true, true, true] rfl rfl (by kernel_rfl) (by decide) (fun K hK => ?_)
    refine skip_ (w1 := ?_) (by rfl) rfl ?_ ?_
    rotate_left
    · go_simp
      rfl
    refine hK.out _ _ ?_
    clear hK K
    refine done_ (by kernel_rfl) ?_
    clear hHeld
    go_upto_region 8 with (fail)
    try simp only [Act.put, sT, sZ, sS, i64_w, i32_w]
    clear x0 x1 x2 x3 x4 x5 x6 x7 zp f0 f1 f2 f3 f4 f5 f6 f7 d0 d1 d2 d3 d4 d5 d6 d7
    obtain ⟨hS, hg⟩ := spec_l10Turn.putN HO.out p P01.out.1 P01.out.2 y (Kd.V_at K4.out).2.1 (Kd.V_at K4.out).2.2 (Kd.V_at K5.out).2.1 (Kd.V_at K5.out).2.2 (Kd.V_at K6.out).2.1 (Kd.V_at K6.out).2.2 (fun k_ h_ => h_.elim (fun h2_ => ⟨.inl h2_, Nat.ne_of_lt (Nat.lt_of_lt_of_le h2_.2 (Nat.le_trans HN1.out.2.2 HN2.out.2))⟩) (fun h2_ => ⟨.inr (Nat.le_trans HN2.out.2 (Nat.le_trans (Nat.le_of_lt HN2.out.1) h2_)), Nat.ne_of_gt (Nat.lt_of_lt_of_le HN2.out.1 h2_)⟩))
    have S6 : Aside0 (Kd.N k34 34 (World.setCell (World.setCell (World.setCell (World.setCell (World.setCell (World.setCell (World.setCell (World.setCell w7 ⟨gk, p.toNat * 8, none⟩ (.int .i64 y.f0)) ⟨gk, p.toNat * 8 + 1, none⟩ (.string y.f1)) ⟨gk, p.toNat * 8 + 2, none⟩ (.string y.f2)) ⟨gk, p.toNat * 8 + 3, none⟩ (.string y.f3)) ⟨gk, p.toNat * 8 + 4, none⟩ (.slice Q4 y.f4.length m4)) ⟨gk, p.toNat * 8 + 5, none⟩ (.slice Q5 y.f5.length m5)) ⟨gk, p.toNat * 8 + 6, none⟩ (.slice Q6 y.f6.length m6)) ⟨gk, p.toNat * 8 + 7, none⟩ (.string y.f7)) N1 (fun k_ => (P k_ ∧ k_ < w.heap.size) ∨ N1 ≤ k_) (.slice (some ⟨gk, 0, none⟩) x.f6.length c9) (x.f6.set p.toNat y)) := ⟨hS⟩
    replace hg : w7.grownBy (World.setCell (World.setCell (World.setCell (World.setCell (World.setCell (World.setCell (World.setCell (World.setCell w7 ⟨gk, p.toNat * 8, none⟩ (.int .i64 y.f0)) ⟨gk, p.toNat * 8 + 1, none⟩ (.string y.f1)) ⟨gk, p.toNat * 8 + 2, none⟩ (.string y.f2)) ⟨gk, p.toNat * 8 + 3, none⟩ (.string y.f3)) ⟨gk, p.toNat * 8 + 4, none⟩ (.slice Q4 y.f4.length m4)) ⟨gk, p.toNat * 8 + 5, none⟩ (.slice Q5 y.f5.length m5)) ⟨gk, p.toNat * 8 + 6, none⟩ (.slice Q6 y.f6.length m6)) ⟨gk, p.toNat * 8 + 7, none⟩ (.string y.f7)) (some gk) := hg
    have hkn := HN2.out.2
    have hgo := HN1.out.1
    have hgr := GO.out
    replace BO := Aside0.mk (blk_grown BO.out hg (fun e_ => by injection e_ with e_; omega))
    replace BR := Aside0.mk (blk_grown BR.out hg (fun e_ => by injection e_ with e_; omega))
    replace HB := Aside0.mk (pw_below_grown HB.out (some gk) HB.out.size hg (fun k_ e_ => by injection e_ with e_; rw [← e_]; exact Nat.le_trans HN1.out.2.2 hkn))
    clear hS hg hkn hgo hgr HO K4 K5 K6 BX
    generalize World.setCell _ _ _ = w9 at S6 BO BR HB ⊢
    obtain ⟨zk0, zk1, zk2, zk3, zk4, zk5, zk6, zk7⟩ := bc8 BO.out
    obtain ⟨zr0, zr1, zr2, zr3, zr4, zr5, zr6, zr7⟩ := bc8 BR.out
    obtain ⟨yr0, yr1, yr2, yr3, yr4, yr5, yr6, yr7⟩ := bf8 BR.out
    go_wp2
    refine bodyPost_ret (results_cell_row rfl _ _ gR 34 #[.int .i64 x.f0, .string x.f1, .string x.f2, .string x.f3, .slice A4 x.f4.length c4, .slice A5 x.f5.length c5, .slice (some ⟨gk, 0, none⟩) x.f6.length c9, .string x.f7] (0, 0) _ rfl (put8 BR.out) Try.underlying34 rfl (by kernel_rfl)) rfl ?_
    exact ⟨_, _, _, rfl, Kd.V_mono (spec_l10Turn.finV (u0 := .int .i64 x.f0) (u1 := .string x.f1) (u2 := .string x.f2) (u3 := .string x.f3) (u4 := .slice A4 x.f4.length c4) (u5 := .slice A5 x.f5.length c5) (u6 := .slice (some ⟨gk, 0, none⟩) x.f6.length c9) (u7 := .string x.f7) (spec_l10Turn.vb (b' := 0) V4.out HB.out) (fun k_ h_ => Nat.ne_of_lt (Nat.lt_of_lt_of_le h_.2 (Nat.le_trans GX.out (Nat.le_of_lt GR.out))))) (fun _ h_ => .inl h_.1), Kd.V_mono (spec_l10Turn.finV (u0 := .int .i64 x.f0) (u1 := .string x.f1) (u2 := .string x.f2) (u3 := .string x.f3) (u4 := .slice A4 x.f4.length c4) (u5 := .slice A5 x.f5.length c5) (u6 := .slice (some ⟨gk, 0, none⟩) x.f6.length c9) (u7 := .string x.f7) (spec_l10Turn.vb (b' := 0) V5.out HB.out) (fun k_ h_ => Nat.ne_of_lt (Nat.lt_of_lt_of_le h_.2 (Nat.le_trans GX.out (Nat.le_of_lt GR.out))))) (fun _ h_ => .inl h_.1), Kd.V_mono (spec_l10Turn.finV (b := 0) (u0 := .int .i64 x.f0) (u1 := .string x.f1) (u2 := .string x.f2) (u3 := .string x.f3) (u4 := .slice A4 x.f4.length c4) (u5 := .slice A5 x.f5.length c5) (u6 := .slice (some ⟨gk, 0, none⟩) x.f6.length c9) (u7 := .string x.f7) (Kd.N_V S6.out) (fun k_ h_ => h_.elim (fun h2_ => Nat.ne_of_lt (Nat.lt_of_lt_of_le h2_.2 (Nat.le_trans GX.out (Nat.le_of_lt GR.out)))) (fun h2_ => Nat.ne_of_gt (Nat.lt_trans GO.out (Nat.lt_of_lt_of_le HN1.out.1 h2_))))) (fun k_ h_ => h_.elim (fun h2_ => .inl h2_.1) (fun h2_ => .inr (Nat.le_trans HN1.out.2.2 h2_))), spec_l10Turn.ch8 HB.out (Nat.le_trans GX.out (Nat.le_of_lt GR.out))⟩

/-! ### spec_InsertAt: function 6 -/
/-- Where nothing is put in. -/
def spec_InsertAt.bad (ok : Bool) (kind : Int) (n : Int) (i : Int) : Option Bool := if ok = true then if kind = 1 ∨ kind = 0 then (spec_l1In.f i 0 n).bind fun b => some (!b) else some true else some true
def spec_InsertAt.f (k : Nat) (x : S34) (path : List Int) (i : Int) (l : List S34) : Option (S34 × Bool) := (spec_NodeAt.f k x.f0 x.f1 x.f2 x.f3 x.f4 x.f5 x.f6 x.f7 path).bind fun a => (spec_InsertAt.bad a.2.2.2.2.2.2.2.2 a.1 (a.2.2.2.2.2.2.1.length : Int) i).bind fun b => if b = true then (spec_l5Copy.f k x.f0 x.f1 x.f2 x.f3 x.f4 x.f5 x.f6 x.f7).bind fun c => some (⟨c.1, c.2.1, c.2.2.1, c.2.2.2.1, c.2.2.2.2.1, c.2.2.2.2.2.1, c.2.2.2.2.2.2.1, c.2.2.2.2.2.2.2⟩, false) else (spec_l10Turn.f k x path i l).bind fun z => (spec_l5Copy.f k z.f0 z.f1 z.f2 z.f3 z.f4 z.f5 z.f6 z.f7).bind fun y => some (⟨y.1, y.2.1, y.2.2.1, y.2.2.2.1, y.2.2.2.2.1, y.2.2.2.2.2.1, y.2.2.2.2.2.2.1, y.2.2.2.2.2.2.2⟩, true)
theorem spec_InsertAt.finR {α : Type} {d : Kd α} {e base g : Nat} {W : World} {ok : Nat → Prop} {v : Value} {xs : List α} {u0 u1 u2 u3 u4 u5 u6 u7 : Value} (h : d.R e W base ok v xs) (hg : g < base) : d.R e ((((((((W.setCell ⟨g, 0, none⟩ u0).setCell ⟨g, 1, none⟩ u1).setCell ⟨g, 2, none⟩ u2).setCell ⟨g, 3, none⟩ u3).setCell ⟨g, 4, none⟩ u4).setCell ⟨g, 5, none⟩ u5).setCell ⟨g, 6, none⟩ u6).setCell ⟨g, 7, none⟩ u7) base ok v xs := by
  have hk : ∀ k, (ok k ∧ base ≤ k ∧ k < W.heap.size ∧ ∃ q, q ∈ e :: d.E ∧ ∃ cells, W.heap[k]? = some (.cells cells q (0, 0))) → k ≠ g := fun k h_ => by have := h_.2.1; omega
  exact Kd.R_mono (Kd.R_far (p := ⟨g, 7, none⟩) (Kd.R_far (p := ⟨g, 6, none⟩) (Kd.R_far (p := ⟨g, 5, none⟩) (Kd.R_far (p := ⟨g, 4, none⟩) (Kd.R_far (p := ⟨g, 3, none⟩) (Kd.R_far (p := ⟨g, 2, none⟩) (Kd.R_far (p := ⟨g, 1, none⟩) (Kd.R_far (p := ⟨g, 0, none⟩) (Kd.R_bound h) hk u0) hk u1) hk u2) hk u3) hk u4) hk u5) hk u6) hk u7) (fun _ h_ => h_.1)
theorem spec_InsertAt.calls (k : Nat) (x : S34) (P4 : Nat → Prop) (A4 : Option Addr) (c4 : Nat) (P5 : Nat → Prop) (A5 : Option Addr) (c5 : Nat) (P6 : Nat → Prop) (A6 : Option Addr) (c6 : Nat) (Ap : Option Addr) (cp : Nat) (path : List Int) (i : Int) (Pl : Nat → Prop) (Al : Option Addr) (cl : Nat) (l : List S34) (r : S34) (rb : Bool) (w : World) (hs4 : Kd.V k69 69 w w.heap.size P4 (.slice A4 x.f4.length c4) x.f4) (hs5 : Kd.V k71 71 w w.heap.size P5 (.slice A5 x.f5.length c5) x.f5) (hs6 : Kd.V k34 34 w w.heap.size P6 (.slice A6 x.f6.length c6) x.f6) (hp : Kd.C (Kd.int .i64) w Ap path.length path) (hcp : path.length ≤ cp) (hL : Kd.V k34 34 w w.heap.size Pl (.slice Al l.length cl) l) (h : spec_InsertAt.f k x path i l = some (r, rb)) :
    Calls Try.prog 6 #[.agg #[.int .i64 x.f0, .string x.f1, .string x.f2, .string x.f3, .slice A4 x.f4.length c4, .slice A5 x.f5.length c5, .slice A6 x.f6.length c6, .string x.f7], .slice Ap path.length cp, .int .i64 i, .slice Al l.length cl] w fun e w' => ∃ v4 v5 v6 : Value, e = .returned (.tuple #[.agg #[.int .i64 r.f0, .string r.f1, .string r.f2, .string r.f3, v4, v5, v6, .string r.f7], .bool rb]) ∧ Kd.R k69 69 w' w.heap.size (fun _ => True) v4 r.f4 ∧ Kd.R k71 71 w' w.heap.size (fun _ => True) v5 r.f5 ∧ Kd.R k34 34 w' w.heap.size (fun _ => True) v6 r.f6 ∧ Below w.heap.size w w' := by
  unfold spec_InsertAt.f at h
  replace h := Option.bind_eq_some_iff.1 h
  obtain ⟨⟨a0, a1, a2, a3, a4, a5, a6, a7, ak⟩, h1_, h⟩ := h
  dsimp only at h
  replace h := Option.bind_eq_some_iff.1 h
  obtain ⟨bd, h2_, h⟩ := h
  have T1 := Aside0.mk h1_
  have T2 := Aside0.mk h2_
  have TH := Aside0.mk h
  clear h1_ h2_ h
  have HV4 := Aside0.mk hs4
  have HV5 := Aside0.mk hs5
  have HV6 := Aside0.mk hs6
  have HP := Aside0.mk hp
  have HCP := Aside0.mk hcp
  have HL := Aside0.mk hL
  have HB := Aside0.mk (Below.refl w.heap.size w)
  clear hs4 hs5 hs6 hp hcp hL
  have hu34 := Try.underlying34
  go_enter Try.func6, Try.ntmps6
  go_upto_region 2 with (first
      | ((with_reducible refine gate_dst (N := 4) rfl ?_); refine box_event ?hg (N := 4) ?hd (cs := #[.int .i64 x.f0, .string x.f1, .string x.f2, .string x.f3, .slice A4 x.f4.length c4, .slice A5 x.f5.length c5, .slice A6 x.f6.length c6, .string x.f7]) (t := 34) ?hr ?_; (case hd => rfl); (case hg => rfl); (case hr => first | (go_simp; done) | (go_simp; rfl)); intro gx hg w1 hbox hb; have BX := Aside0.mk hbox; have GX := Aside0.mk (show w.heap.size ≤ gx from Nat.le_of_eq hg.symm); replace HB := Aside0.mk (below_step HB.out hb); clear hb hbox hg)
      | ((with_reducible refine gate_dst (N := 8) rfl ?_); refine box_event ?hg (N := 8) ?hd (cs := #[.int .i64 0, .string (⟨#[]⟩ : ByteArray), .string (⟨#[]⟩ : ByteArray), .string (⟨#[]⟩ : ByteArray), .slice none 0 0, .slice none 0 0, .slice none 0 0, .string (⟨#[]⟩ : ByteArray)]) (t := 34) ?hr ?_; (case hd => rfl); (case hg => rfl); (case hr => first | (go_simp; done) | (go_simp; rfl)); intro gR hg w1 hbox hb; have BR := Aside0.mk hbox; have GR := Aside0.mk (show gx < gR by rw [hg]; exact blk_lt BX.out); replace BX := Aside0.mk (blk_below BX.out hb); replace HB := Aside0.mk (below_step HB.out hb); clear hb hbox hg; obtain ⟨zx0, zx1, zx2, zx3, zx4, zx5, zx6, zx7⟩ := bc8 BX.out)
      | ((with_reducible refine gate_callee (f := 20) rfl ?_); refine goesL_ (some 15) rfl rfl Try.func20 (by kernel_rfl) rfl #[.agg #[.int .i64 x.f0, .string x.f1, .string x.f2, .string x.f3, .slice A4 x.f4.length c4, .slice A5 x.f5.length c5, .slice A6 x.f6.length c6, .string x.f7], .slice Ap path.length cp] rfl mA ?_; (with_reducible refine (spec_NodeAt.calls k x.f0 x.f1 x.f2 x.f3 P4 A4 c4 x.f4 P5 A5 c5 x.f5 P6 A6 c6 x.f6 x.f7 Ap cp path a0 a1 a2 a3 a4 a5 a6 a7 ak _ (spec_l10Turn.vb HV4.out HB.out) (spec_l10Turn.vb HV5.out HB.out) (spec_l10Turn.vb HV6.out HB.out) (Kd.C_below HP.out HB.out) HCP.out T1.out).mono ?_); rintro e w5 ⟨v4, v5, v6, rfl, h4, h5, h6, hb⟩; refine ⟨_, rfl, ?_⟩; replace BX := Aside0.mk (blk_below BX.out hb); replace BR := Aside0.mk (blk_below BR.out hb); replace HB := Aside0.mk (below_step HB.out hb); obtain ⟨E4, m4, e_⟩ := Kd.R_slice h4; subst e_; obtain ⟨E5, m5, e_⟩ := Kd.R_slice h5; subst e_; obtain ⟨E6, m6, e_⟩ := Kd.R_slice h6; subst e_; clear h4 h5 h6 hb zx0 zx1 zx2 zx3 zx4 zx5 zx6 zx7)
      | ((with_reducible refine gate_dst (N := 10) rfl ?_); refine box_event ?hg (N := 10) ?hd (cs := #[.int .i64 0, .string (⟨#[]⟩ : ByteArray), .string (⟨#[]⟩ : ByteArray), .string (⟨#[]⟩ : ByteArray), .slice none 0 0, .slice none 0 0, .slice none 0 0, .string (⟨#[]⟩ : ByteArray)]) (t := 34) ?hr ?_; (case hd => rfl); (case hg => rfl); (case hr => first | (go_simp; done) | (go_simp; rfl)); intro gA hg w1 hbox hb; have BA := Aside0.mk hbox; have HX := Aside0.mk (spec_l10Turn.ch8 (u0 := .int .i64 a0) (u1 := .string a1) (u2 := .string a2) (u3 := .string a3) (u4 := .slice E4 a4.length m4) (u5 := .slice E5 a5.length m5) (u6 := .slice E6 a6.length m6) (u7 := .string a7) hb (Nat.le_of_eq hg.symm)); obtain ⟨zk0, zk1, zk2, zk3, zk4, zk5, zk6, zk7⟩ := bc8 hbox; obtain ⟨yk0, yk1, yk2, yk3, yk4, yk5, yk6, yk7⟩ := bf8 hbox; clear hb hbox hg))
  try simp only [Act.put, sT, sZ, sS, i64_w, i32_w]
  replace BA := Aside0.mk (put8 (b0 := .int .i64 a0) (b1 := .string a1) (b2 := .string a2) (b3 := .string a3) (b4 := .slice E4 a4.length m4) (b5 := .slice E5 a5.length m5) (b6 := .slice E6 a6.length m6) (b7 := .string a7) BA.out)
  replace BX := Aside0.mk (blk_below BX.out HX.out)
  replace BR := Aside0.mk (blk_below BR.out HX.out)
  replace HB := Aside0.mk (below_step HB.out HX.out)
  clear HX zk0 zk1 zk2 zk3 zk4 zk5 zk6 zk7 yk0 yk1 yk2 yk3 yk4 yk5 yk6 yk7
  generalize World.setCell _ _ _ = w6 at BA BX BR HB ⊢
  go_cut [37] from 12 (fun v37 wc => v37 = .bool bd ∧ Aside0 (wc.heap[gx]? = some (.cells #[.int .i64 x.f0, .string x.f1, .string x.f2, .string x.f3, .slice A4 x.f4.length c4, .slice A5 x.f5.length c5, .slice A6 x.f6.length c6, .string x.f7] 34 (0, 0))) ∧ Aside0 (wc.heap[gR]? = some (.cells #[.int .i64 0, .string (⟨#[]⟩ : ByteArray), .string (⟨#[]⟩ : ByteArray), .string (⟨#[]⟩ : ByteArray), .slice none 0 0, .slice none 0 0, .slice none 0 0, .string (⟨#[]⟩ : ByteArray)] 34 (0, 0))) ∧ Aside0 (Below w.heap.size w wc))
  case first =>
    have h2_ := T2.out
    unfold spec_InsertAt.bad at h2_
    obtain ⟨zk0, -, -, -, -, -, zk6, -⟩ := bc8 BA.out
    cases ak with
    | false =>
      rw [if_neg (by simp), Option.some.injEq] at h2_
      subst h2_
      go_wp2
      go_meet
      case rel => exact ⟨rfl, BX, BR, HB⟩
    | true =>
      rw [if_pos rfl] at h2_
      by_cases hk : a0 = 1 ∨ a0 = 0
      · rw [if_pos hk] at h2_
        replace h2_ := Option.bind_eq_some_iff.1 h2_
        obtain ⟨b, h3_, h2_⟩ := h2_
        simp only [Option.some.injEq] at h2_
        subst h2_
        have T3 := Aside0.mk h3_
        clear h3_
        rcases hk with rfl | rfl
        all_goals
          cases b with
          | true =>
            go_wp2_with (go_at_call 21; (refine (spec_l1In.calls i 0 (a6.length : Int) _ _ T3.out).mono ?_); rintro e w7 ⟨rfl, hd_⟩; have hb := hd_.below; clear hd_; replace BX := Aside0.mk (blk_below BX.out hb); replace BR := Aside0.mk (blk_below BR.out hb); replace HB := Aside0.mk (below_step HB.out hb); clear hb)
            go_meet
            case rel => exact ⟨rfl, BX, BR, HB⟩
          | false =>
            go_wp2_with (go_at_call 21; (refine (spec_l1In.calls i 0 (a6.length : Int) _ _ T3.out).mono ?_); rintro e w7 ⟨rfl, hd_⟩; have hb := hd_.below; clear hd_; replace BX := Aside0.mk (blk_below BX.out hb); replace BR := Aside0.mk (blk_below BR.out hb); replace HB := Aside0.mk (below_step HB.out hb); clear hb)
            go_meet
            case rel => exact ⟨rfl, BX, BR, HB⟩
      · rw [if_neg hk, Option.some.injEq] at h2_
        subst h2_
        have k1 : (a0 != 1) = true := bne_iff_ne.mpr (fun e => hk (.inl e))
        have k0 : (a0 != 0) = true := bne_iff_ne.mpr (fun e => hk (.inr e))
        clear hk
        go_wp2
        go_meet
        case rel => exact ⟨rfl, BX, BR, HB⟩
  case rest =>
  clear BX BR HB BA
  obtain ⟨rfl, BX, BR, HB⟩ := hcut
  have h := TH.out
  clear TH
  cases bd with
  | true =>
    rw [if_pos rfl] at h
    replace h := Option.bind_eq_some_iff.1 h
    obtain ⟨⟨y0, y1, y2, y3, y4, y5, y6, y7⟩, h1_, h⟩ := h
    simp only [Option.some.injEq, Prod.mk.injEq] at h
    obtain ⟨rfl, rfl⟩ := h
    have TC := Aside0.mk h1_
    clear h1_
    obtain ⟨zx0, zx1, zx2, zx3, zx4, zx5, zx6, zx7⟩ := bc8 BX.out
    go_wp2_with (first
        | ((with_reducible refine gate_callee (f := 22) rfl ?_); refine goesL_ (some 39) rfl rfl Try.func22 (by kernel_rfl) rfl #[.agg #[.int .i64 x.f0, .string x.f1, .string x.f2, .string x.f3, .slice A4 x.f4.length c4, .slice A5 x.f5.length c5, .slice A6 x.f6.length c6, .string x.f7]] rfl mA ?_; (with_reducible refine (spec_l5Copy.calls k x.f0 x.f1 x.f2 x.f3 A4 c4 x.f4 A5 c5 x.f5 A6 c6 x.f6 x.f7 y0 y1 y2 y3 y4 y5 y6 y7 _ (Kd.V_reads' (spec_l10Turn.vb (b' := 0) HV4.out HB.out)).2.2 (Kd.V_reads' (spec_l10Turn.vb (b' := 0) HV4.out HB.out)).2.1 (Kd.V_reads' (spec_l10Turn.vb (b' := 0) HV5.out HB.out)).2.2 (Kd.V_reads' (spec_l10Turn.vb (b' := 0) HV5.out HB.out)).2.1 (Kd.V_reads' (spec_l10Turn.vb (b' := 0) HV6.out HB.out)).2.2 (Kd.V_reads' (spec_l10Turn.vb (b' := 0) HV6.out HB.out)).2.1 TC.out).mono ?_); rintro e w8 ⟨v4, v5, v6, rfl, h4, h5, h6, hb⟩; refine ⟨_, rfl, ?_⟩; obtain ⟨Nc, hN, h4, h5, h6⟩ : ∃ Nc : Nat, (gR < Nc ∧ w.heap.size ≤ Nc) ∧ Kd.R k69 69 w8 Nc (fun _ => True) v4 y4 ∧ Kd.R k71 71 w8 Nc (fun _ => True) v5 y5 ∧ Kd.R k34 34 w8 Nc (fun k_ => some k_ ≠ (v4 : Value).ownBlock ∧ some k_ ≠ (v5 : Value).ownBlock) v6 y6 := ⟨_, ⟨blk_lt BR.out, HB.out.size⟩, h4, h5, h6⟩; have HN := Aside0.mk hN; have D4 := Aside0.mk h4; have D5 := Aside0.mk h5; have D6 := Aside0.mk h6; replace BR := Aside0.mk (blk_below BR.out hb); replace HB := Aside0.mk (below_step HB.out hb); obtain ⟨F4, q4, e_⟩ := Kd.R_slice D4.out; subst e_; obtain ⟨F5, q5, e_⟩ := Kd.R_slice D5.out; subst e_; obtain ⟨F6, q6, e_⟩ := Kd.R_slice D6.out; subst e_; clear h4 h5 h6 hN hb; obtain ⟨zr0, zr1, zr2, zr3, zr4, zr5, zr6, zr7⟩ := bc8 BR.out; obtain ⟨yr0, yr1, yr2, yr3, yr4, yr5, yr6, yr7⟩ := bf8 BR.out))
    refine bodyPost_ret (results_ct rfl _ _ gR 34 #[.int .i64 y0, .string y1, .string y2, .string y3, .slice F4 y4.length q4, .slice F5 y5.length q5, .slice F6 y6.length q6, .string y7] (0, 0) _ rfl (put8 BR.out) Try.underlying34 rfl (by kernel_rfl)) rfl ?_
    exact ⟨_, _, _, rfl, Kd.R_lower (spec_InsertAt.finR (u0 := .int .i64 y0) (u1 := .string y1) (u2 := .string y2) (u3 := .string y3) (u4 := .slice F4 y4.length q4) (u5 := .slice F5 y5.length q5) (u6 := .slice F6 y6.length q6) (u7 := .string y7) D4.out HN.out.1) HN.out.2, Kd.R_lower (spec_InsertAt.finR (u0 := .int .i64 y0) (u1 := .string y1) (u2 := .string y2) (u3 := .string y3) (u4 := .slice F4 y4.length q4) (u5 := .slice F5 y5.length q5) (u6 := .slice F6 y6.length q6) (u7 := .string y7) D5.out HN.out.1) HN.out.2, Kd.R_lower (spec_InsertAt.finR (u0 := .int .i64 y0) (u1 := .string y1) (u2 := .string y2) (u3 := .string y3) (u4 := .slice F4 y4.length q4) (u5 := .slice F5 y5.length q5) (u6 := .slice F6 y6.length q6) (u7 := .string y7) (Kd.R_mono (ok' := fun _ => True) D6.out (fun _ _ => trivial)) HN.out.1) HN.out.2, spec_l10Turn.ch8 HB.out (Nat.le_trans GX.out (Nat.le_of_lt GR.out))⟩
  | false =>
    rw [if_neg (by simp)] at h
    replace h := Option.bind_eq_some_iff.1 h
    obtain ⟨z, h1_, h⟩ := h
    replace h := Option.bind_eq_some_iff.1 h
    obtain ⟨⟨y0, y1, y2, y3, y4, y5, y6, y7⟩, h2_, h⟩ := h
    simp only [Option.some.injEq, Prod.mk.injEq] at h
    obtain ⟨rfl, rfl⟩ := h
    have TZ := Aside0.mk h1_
    have TC := Aside0.mk h2_
    clear h1_ h2_
    obtain ⟨zx0, zx1, zx2, zx3, zx4, zx5, zx6, zx7⟩ := bc8 BX.out
    go_wp2_with (first
        | ((with_reducible refine gate_callee (f := 23) rfl ?_); refine goesL_ (some 45) rfl rfl Try.func23 (by kernel_rfl) rfl #[.agg #[.int .i64 x.f0, .string x.f1, .string x.f2, .string x.f3, .slice A4 x.f4.length c4, .slice A5 x.f5.length c5, .slice A6 x.f6.length c6, .string x.f7], .slice Ap path.length cp, .int .i64 i, .int .i64 i, .slice Al l.length cl] rfl mA ?_; (with_reducible refine (spec_l10Turn.calls k (fun _ => True) x A4 c4 A5 c5 A6 c6 Ap cp path i Al cl l z _ (Kd.V_mono (spec_l10Turn.vb HV4.out HB.out) (fun _ _ => trivial)) (Kd.V_mono (spec_l10Turn.vb HV5.out HB.out) (fun _ _ => trivial)) (Kd.V_mono (spec_l10Turn.vb HV6.out HB.out) (fun _ _ => trivial)) (Kd.C_below HP.out HB.out) HCP.out (Kd.V_mono (spec_l10Turn.vb HL.out HB.out) (fun _ _ => trivial)) TZ.out).mono ?_); rintro e w8 ⟨v4, v5, v6, rfl, h4, h5, h6, hb⟩; refine ⟨_, rfl, ?_⟩; obtain ⟨G4, n4, e_⟩ := Kd.V_slice h4; subst e_; obtain ⟨G5, n5, e_⟩ := Kd.V_slice h5; subst e_; obtain ⟨G6, n6, e_⟩ := Kd.V_slice h6; subst e_; have K4 := Aside0.mk h4; have K5 := Aside0.mk h5; have K6 := Aside0.mk h6; replace BX := Aside0.mk (blk_below BX.out hb); replace BR := Aside0.mk (blk_below BR.out hb); replace HB := Aside0.mk (below_step HB.out hb); clear h4 h5 h6 hb)
        | ((with_reducible refine gate_callee (f := 22) rfl ?_); refine goesL_ (some 46) rfl rfl Try.func22 (by kernel_rfl) rfl #[.agg #[.int .i64 z.f0, .string z.f1, .string z.f2, .string z.f3, .slice G4 z.f4.length n4, .slice G5 z.f5.length n5, .slice G6 z.f6.length n6, .string z.f7]] rfl mA ?_; (with_reducible refine (spec_l5Copy.calls k z.f0 z.f1 z.f2 z.f3 G4 n4 z.f4 G5 n5 z.f5 G6 n6 z.f6 z.f7 y0 y1 y2 y3 y4 y5 y6 y7 _ (Kd.V_reads' K4.out).2.2 (Kd.V_reads' K4.out).2.1 (Kd.V_reads' K5.out).2.2 (Kd.V_reads' K5.out).2.1 (Kd.V_reads' K6.out).2.2 (Kd.V_reads' K6.out).2.1 TC.out).mono ?_); rintro e w8 ⟨v4, v5, v6, rfl, h4, h5, h6, hb⟩; refine ⟨_, rfl, ?_⟩; obtain ⟨Nc, hN, h4, h5, h6⟩ : ∃ Nc : Nat, (gR < Nc ∧ w.heap.size ≤ Nc) ∧ Kd.R k69 69 w8 Nc (fun _ => True) v4 y4 ∧ Kd.R k71 71 w8 Nc (fun _ => True) v5 y5 ∧ Kd.R k34 34 w8 Nc (fun k_ => some k_ ≠ (v4 : Value).ownBlock ∧ some k_ ≠ (v5 : Value).ownBlock) v6 y6 := ⟨_, ⟨blk_lt BR.out, HB.out.size⟩, h4, h5, h6⟩; have HN := Aside0.mk hN; have D4 := Aside0.mk h4; have D5 := Aside0.mk h5; have D6 := Aside0.mk h6; replace BR := Aside0.mk (blk_below BR.out hb); replace HB := Aside0.mk (below_step HB.out hb); obtain ⟨F4, q4, e_⟩ := Kd.R_slice D4.out; subst e_; obtain ⟨F5, q5, e_⟩ := Kd.R_slice D5.out; subst e_; obtain ⟨F6, q6, e_⟩ := Kd.R_slice D6.out; subst e_; clear h4 h5 h6 hN hb; obtain ⟨zr0, zr1, zr2, zr3, zr4, zr5, zr6, zr7⟩ := bc8 BR.out; obtain ⟨yr0, yr1, yr2, yr3, yr4, yr5, yr6, yr7⟩ := bf8 BR.out))
    refine bodyPost_ret (results_ct rfl _ _ gR 34 #[.int .i64 y0, .string y1, .string y2, .string y3, .slice F4 y4.length q4, .slice F5 y5.length q5, .slice F6 y6.length q6, .string y7] (0, 0) _ rfl (put8 BR.out) Try.underlying34 rfl (by kernel_rfl)) rfl ?_
    exact ⟨_, _, _, rfl, Kd.R_lower (spec_InsertAt.finR (u0 := .int .i64 y0) (u1 := .string y1) (u2 := .string y2) (u3 := .string y3) (u4 := .slice F4 y4.length q4) (u5 := .slice F5 y5.length q5) (u6 := .slice F6 y6.length q6) (u7 := .string y7) D4.out HN.out.1) HN.out.2, Kd.R_lower (spec_InsertAt.finR (u0 := .int .i64 y0) (u1 := .string y1) (u2 := .string y2) (u3 := .string y3) (u4 := .slice F4 y4.length q4) (u5 := .slice F5 y5.length q5) (u6 := .slice F6 y6.length q6) (u7 := .string y7) D5.out HN.out.1) HN.out.2, Kd.R_lower (spec_InsertAt.finR (u0 := .int .i64 y0) (u1 := .string y1) (u2 := .string y2) (u3 := .string y3) (u4 := .slice F4 y4.length q4) (u5 := .slice F5 y5.length q5) (u6 := .slice F6 y6.length q6) (u7 := .string y7) (Kd.R_mono (ok' := fun _ => True) D6.out (fun _ _ => trivial)) HN.out.1) HN.out.2, spec_l10Turn.ch8 HB.out (Nat.le_trans GX.out (Nat.le_of_lt GR.out))⟩

/-! ### laws_toDecl: function 44 -/
def laws_toDecl.f (a0_0 : ByteArray) (a0_1 : ByteArray) : Option (ByteArray × ByteArray) := some (a0_0, a0_1)
theorem laws_toDecl.calls (a0_0 : ByteArray) (a0_1 : ByteArray) (r1 : ByteArray) (r2 : ByteArray) (w : World) (h : laws_toDecl.f a0_0 a0_1 = some (r1, r2)) :
  Calls Try.prog 44 #[.agg #[.string a0_0, .string a0_1]] w fun e w' => e = .returned (.agg #[.string r1, .string r2]) ∧ Below w.heap.size w w' := by
 have hu64 := Try.underlying64
 have hu69 := Try.underlying69
 have HB := Aside0.mk (Below.refl w.heap.size w)
 have H : (some (a0_0, a0_1)) = some (r1, r2) := h
 clear h
 simp only [Option.some.injEq, Prod.mk.injEq] at H
 obtain ⟨rfl, rfl⟩ := H
 go_enter Try.func44, Try.ntmps44
 go_wp2_with (first | ((with_reducible refine gate_dst (N := 1) rfl ?_); refine box_event ?hg (N := 1) ?hd (cs := #[.string a0_0, .string a0_1]) (t := 64) ?hr ?_; (case hd => rfl); (case hg => rfl); (case hr => first | (go_simp; done) | (go_simp; rfl)); intro gb236 hg w2 hbox hb; have BK236 := Aside0.mk (hbox); have GW236 := Aside0.mk ((by rw [hg]; exact (below_size hB) : w.heap.size ≤ gb236)); have GE236 := Aside0.mk ((by rw [hg]; exact (below_size hB) : w.heap.size ≤ gb236)); replace HB := Aside0.mk (below_step hB hb); clear hb hbox hg) | ((with_reducible refine gate_dst (N := 2) rfl ?_); refine box_event ?hg (N := 2) ?hd (cs := #[.string (⟨#[]⟩ : ByteArray), .string (⟨#[]⟩ : ByteArray)]) (t := 69) ?hr ?_; (case hd => rfl); (case hg => rfl); (case hr => first | (go_simp; done) | (go_simp; rfl)); intro gb237 hg w3 hbox hb; have BK237 := Aside0.mk (hbox); have GW237 := Aside0.mk ((by rw [hg]; exact (below_size hB) : w.heap.size ≤ gb237)); have GE237 := Aside0.mk ((by rw [hg]; exact (below_size hB) : w.heap.size ≤ gb237)); replace HB := Aside0.mk (below_step hB hb); have NB236_237 := Aside0.mk ((by rw [hg]; exact Nat.ne_of_lt (blk_lt (g := gb236) (by (with_reducible repeat (first | refine bN ?_ _|refine bD ?_|refine bA ?_ _)); exact BK236.out)) : gb236 ≠ gb237)); have NB237_236 := Aside0.mk ((by rw [hg]; exact Nat.ne_of_gt (blk_lt (g := gb236) (by (with_reducible repeat (first | refine bN ?_ _|refine bD ?_|refine bA ?_ _)); exact BK236.out)) : gb237 ≠ gb236)); replace BK236 := Aside0.mk (blk_below (g := gb236) (by (with_reducible repeat (first | refine bN ?_ _|refine bD ?_|refine bA ?_ _)); exact BK236.out) hb); clear hb hbox hg) | ((with_reducible refine gate_dst (N := 3) rfl ?_); refine box_event ?hg (N := 3) ?hd (cs := #[.string (⟨#[]⟩ : ByteArray), .string (⟨#[]⟩ : ByteArray)]) (t := 69) ?hr ?_; (case hd => rfl); (case hg => rfl); (case hr => first | (go_simp; done) | (go_simp; rfl)); intro gb238 hg w4 hbox hb; have BK238 := Aside0.mk (hbox); have GW238 := Aside0.mk ((by rw [hg]; exact (below_size hB) : w.heap.size ≤ gb238)); have GE238 := Aside0.mk ((by rw [hg]; exact (below_size hB) : w.heap.size ≤ gb238)); replace HB := Aside0.mk (below_step hB hb); have NB236_238 := Aside0.mk ((by rw [hg]; exact Nat.ne_of_lt (blk_lt (g := gb236) (by (with_reducible repeat (first | refine bN ?_ _|refine bD ?_|refine bA ?_ _)); exact BK236.out)) : gb236 ≠ gb238)); have NB238_236 := Aside0.mk ((by rw [hg]; exact Nat.ne_of_gt (blk_lt (g := gb236) (by (with_reducible repeat (first | refine bN ?_ _|refine bD ?_|refine bA ?_ _)); exact BK236.out)) : gb238 ≠ gb236)); replace BK236 := Aside0.mk (blk_below (g := gb236) (by (with_reducible repeat (first | refine bN ?_ _|refine bD ?_|refine bA ?_ _)); exact BK236.out) hb); have NB237_238 := Aside0.mk ((by rw [hg]; exact Nat.ne_of_lt (blk_lt (g := gb237) (by (with_reducible repeat (first | refine bN ?_ _|refine bD ?_|refine bA ?_ _)); exact BK237.out)) : gb237 ≠ gb238)); have NB238_237 := Aside0.mk ((by rw [hg]; exact Nat.ne_of_gt (blk_lt (g := gb237) (by (with_reducible repeat (first | refine bN ?_ _|refine bD ?_|refine bA ?_ _)); exact BK237.out)) : gb238 ≠ gb237)); replace BK237 := Aside0.mk (blk_below (g := gb237) (by (with_reducible repeat (first | refine bN ?_ _|refine bD ?_|refine bA ?_ _)); exact BK237.out) hb); clear hb hbox hg; have hnb5 := NB236_237.out; have hnc5 := NB237_236.out; have hnb6 := NB236_238.out; have hnc6 := NB238_236.out; obtain ⟨hcz7_0, hcz7_1⟩ := bc2 BK236.out; obtain ⟨hfz7_0, hfz7_1⟩ := bf2 BK236.out; have hnb8 := NB238_237.out; have hnc8 := NB237_238.out; obtain ⟨hcz9_0, hcz9_1⟩ := bc2 BK238.out; obtain ⟨hfz9_0, hfz9_1⟩ := bf2 BK238.out; obtain ⟨hcz10_0, hcz10_1⟩ := bc2 BK237.out; obtain ⟨hfz10_0, hfz10_1⟩ := bf2 BK237.out))
 refine bodyPost_ret (results_cell_row rfl _ _ gb237 69 #[.string a0_0, .string a0_1] (0, 0) _ rfl (by (with_reducible repeat (first | refine bN ?_ _|refine bD ?_|refine bA ?_ _)); exact put2 (by (with_reducible repeat (first | refine bN ?_ _|refine bD ?_|refine bA ?_ _)); exact pfa2 (hn := NB237_238.out) (by (with_reducible repeat (first | refine bN ?_ _|refine bD ?_|refine bA ?_ _)); exact BK237.out))) Try.underlying69 rfl (by kernel_rfl)) rfl ?_
 exact ⟨rE, hB⟩

end Go.Proofs.Ytglmahgliihkaaa.PY
