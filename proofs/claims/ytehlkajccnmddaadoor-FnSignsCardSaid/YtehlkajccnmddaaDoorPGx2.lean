-- Written by the session's program hprint.py, over the kit's print program. Lean checks it.
import Derived.Test.YtehlkajccnmddaaDoorPGx0
import Derived.Test.YtehlkajccnmddaaDoorPGx1
namespace Go.Proofs.YtehlkajccnmddaaDoor.PG
open Go.RowKit Go.Proofs.YtehlkajccnmddaaDoorW.PrintWords Go.Proofs.YtehlkajccnmddaaDoorW.PrintLast Go.Proofs.YtehlkajccnmddaaDoorW.PrintMore
attribute [local go_sem] max2_int min2_int max_two min_two max_three min_three max_four min_four   -- for this text's walks alone
set_option linter.unusedVariables false
set_option linter.unusedSimpArgs false

/-! ### spec_l1Text: function 30 -/
mutual
def spec_l1Text.l0 : Nat → ByteArray → Int → List Int → Int → Int → Option (ByteArray × Int × Int)
 | 0, _, _, _, _, _ => none
 | k + 1, x3, x4, x1000, x1001, x1002 => if x4 > 0 then ((spec_l1Str.f x1000 x1001 x1002 (([(⟨#[97]⟩ : ByteArray), (⟨#[98, 32, 99]⟩ : ByteArray), (⟨#[32]⟩ : ByteArray), (⟨#[10]⟩ : ByteArray), (⟨#[195, 169]⟩ : ByteArray), (⟨#[226, 130, 172]⟩ : ByteArray), (⟨#[240, 159, 152, 128]⟩ : ByteArray), (⟨#[60]⟩ : ByteArray), (⟨#[38]⟩ : ByteArray), (⟨#[62]⟩ : ByteArray), (⟨#[34]⟩ : ByteArray), (⟨#[39]⟩ : ByteArray), (⟨#[93, 93, 62]⟩ : ByteArray), (⟨#[45, 45]⟩ : ByteArray), (⟨#[9]⟩ : ByteArray), (⟨#[13]⟩ : ByteArray), (⟨#[0]⟩ : ByteArray), (⟨#[255]⟩ : ByteArray), (⟨#[192, 128]⟩ : ByteArray), (⟨#[239, 191, 190]⟩ : ByteArray)] : List ByteArray))).bind fun bt156 => (if x3.size + bt156.1.size ≤ 9223372036854775807 then (spec_l1Text.l0 k (x3 ++ bt156.1) (wrap64 (x4 - 1)) x1000 bt156.2.1 bt156.2.2) else (none))) else ((spec_l1Once.f x1000 x1001 x1002 40).bind fun bt159 => (if bt159.1 = true then (spec_l1Text.l1 k x3 x1000 bt159.2.1 bt159.2.2) else (some (x3, bt159.2.1, bt159.2.2))))
def spec_l1Text.l1 : Nat → ByteArray → List Int → Int → Int → Option (ByteArray × Int × Int)
 | 0, _, _, _, _ => none
 | k + 1, x3, x1000, x1001, x1002 => (spec_l1Int.f x1000 x1001 x1002 (([600, 601] : List Int))).bind fun bt165 => (if (x3.size : Int) < bt165.1 then (if x3.size + 1 ≤ 9223372036854775807 then (spec_l1Text.l1 k (x3 ++ (⟨#[120]⟩ : ByteArray)) x1000 bt165.2.1 bt165.2.2) else (none)) else (some (x3, bt165.2.1, bt165.2.2)))
end
def spec_l1Text.f (k : Nat) (s0_0 : List Int) (s0_1 : Int) (s0_2 : Int) : Option (ByteArray × Int × Int) := (spec_l1Below.f s0_0 s0_1 s0_2 4).bind fun bt150 => (spec_l1Text.l0 k (⟨#[]⟩ : ByteArray) bt150.1 s0_0 bt150.2.1 bt150.2.2)
set_option maxHeartbeats 8000000 in
set_option maxRecDepth 100000 in
theorem spec_l1Text.calls (k : Nat) (g : Nat) (s0_0 : List Int) (s0_1 : Int) (s0_2 : Int) (r1 : ByteArray) (r2 : Int) (r3 : Int) (w0 w : World) (hI : IsS67 w0 w g s0_0 s0_1 s0_2) (hB : Below w0.heap.size w0 w) (h : spec_l1Text.f k s0_0 s0_1 s0_2 = some (r1, r2, r3)) :
  Calls Tryd.prog 30 #[.pointer (some ⟨g, 0, none⟩)] w fun e w' => e = .returned (.string r1) ∧ IsS67 w0 w' g s0_0 r2 r3 ∧ Below w0.heap.size w0 w' ∧ KeepBut w w' g none := by
 have HI0 := Aside0.mk hI
 have HK := Aside0.mk (KeepBut.refl w g none)
 have HL := Aside0.mk hB.size
 clear hI
 have HW0 := Aside0.mk hB.size
 have HB := Aside0.mk hB
 clear hB
 have H : ((spec_l1Below.f s0_0 s0_1 s0_2 4).bind fun bt150 => (spec_l1Text.l0 k (⟨#[]⟩ : ByteArray) bt150.1 s0_0 bt150.2.1 bt150.2.2)) = some (r1, r2, r3) := h
 clear h
 replace H := Option.bind_eq_some_iff.mp H
 obtain ⟨⟨t150, t151, t152⟩, A20, H⟩ := H
 replace H : (spec_l1Text.l0 k (⟨#[]⟩ : ByteArray) t150 s0_0 t151 t152) = some (r1, r2, r3) := H
 have A2 := Aside0.mk A20
 clear A20
 have H' := Aside0.mk H
 clear H
 go_enter Tryd.func30, Tryd.ntmps30
 go_wp2_with (first | ((with_reducible refine gate_callee (f := 27) rfl ?_); refine goesL_ (some 6) rfl rfl Tryd.func27 (by kernel_rfl) rfl #[.pointer (some ⟨g, 0, none⟩), .int .i64 4] rfl (by (try simp only [List.map_toArray, List.map_cons, List.map_nil]); first | done | rfl | (simp only [List.length_drop, List.length_take]; rfl)) ?_; (with_reducible refine (spec_l1Below.calls g s0_0 s0_1 s0_2 4 t150 t151 t152 w0 _ ?side1 ?side2 A2.out).mono ?_); (case side1 => repeat (first|(with_reducible first|exact HI0.out | apply IsS67.alloc | apply IsS67.drewN | apply IsS67.drew | apply IsS67.set_1 | apply IsS67.set_2) | exact HI0.out)); (case side2 => repeat (first|(with_reducible first|exact HB.out|apply zA|apply zN|apply zD | refine below_set ?_ (IsS67.ge HI0.out)) | exact HB.out)); rintro e w3 ⟨rfl, hi, hb, hk⟩; refine ⟨_, rfl, ?_⟩; have n0_ := Aside0.mk (KeepBut.trans (by repeat (first|(with_reducible first|exact HK.out | apply KeepBut.set_ | apply keep_drewN | apply keep_drew | apply keep_alloc) | exact HK.out)) hk (.inl rfl)); have n1_ := Aside0.mk (hb); have n2_ := Aside0.mk (hi); clear HK; clear HB; clear HI0; have HK := n0_; have HB := n1_; have HI0 := n2_; clear n0_ n1_ n2_; (try clear hb); (try clear hb2); (try clear hk); (try clear hi)))
 go_loopg [3, 4] k (fun kq v3 v4 w' => ∃ (x3_1 : ByteArray) (x4_1 : Int) (x1001_1 : Int) (x1002_1 : Int), v3 = .string x3_1 ∧ v4 = .int .i64 x4_1 ∧ Aside0 (spec_l1Text.l0 kq x3_1 x4_1 s0_0 x1001_1 x1002_1 = some (r1, r2, r3)) ∧ Aside0 (kq ≤ k) ∧ Aside0 (IsS67 w0 w' g s0_0 x1001_1 x1002_1) ∧ Aside0 (KeepBut w w' g none) ∧ Aside0 (Below w0.heap.size w0 w'))
 case atStart => exact ⟨((⟨#[]⟩ : ByteArray)), (t150), (t151), (t152), (by first | rfl | (simp; done) | (simp [*]; done)), (by first | rfl | (simp; done) | (simp [*]; done)), H', ⟨Nat.le_refl _⟩, ⟨by repeat (first|(with_reducible first|exact HI0.out | apply IsS67.alloc | apply IsS67.drewN | apply IsS67.drew | apply IsS67.set_1 | apply IsS67.set_2) | exact HI0.out)⟩, ⟨by repeat (first|(with_reducible first|exact HK.out | apply KeepBut.set_ | apply keep_drewN | apply keep_drew | apply keep_alloc) | exact HK.out)⟩, ⟨by repeat (first|(with_reducible first|exact HB.out|apply zA|apply zN|apply zD | refine below_set ?_ (IsS67.ge HI0.out)) | exact HB.out)⟩⟩
 case round =>
  clear H'
  try clear c2
  try clear p2
  try clear c3
  obtain ⟨x3_1, x4_1, x1001_1, x1002_1, rfl, rfl, HA, HK1, HI0, HK, HB⟩ := hrel
  cases gk with
  | zero => exact absurd HA.out (by simp [spec_l1Text.l0])
  | succ k1 =>
   have H := HA.out
   clear HA
   simp only [spec_l1Text.l0] at H
   by_cases c4 : x4_1 > 0
   ·rw [if_pos c4] at H
    have c4b0 : decide (0 < x4_1) = true := decide_eq_true c4
    clear c4
    obtain ⟨y153, hy153⟩ : ∃ y_ : List ByteArray, y_ = (([(⟨#[97]⟩ : ByteArray), (⟨#[98, 32, 99]⟩ : ByteArray), (⟨#[32]⟩ : ByteArray), (⟨#[10]⟩ : ByteArray), (⟨#[195, 169]⟩ : ByteArray), (⟨#[226, 130, 172]⟩ : ByteArray), (⟨#[240, 159, 152, 128]⟩ : ByteArray), (⟨#[60]⟩ : ByteArray), (⟨#[38]⟩ : ByteArray), (⟨#[62]⟩ : ByteArray), (⟨#[34]⟩ : ByteArray), (⟨#[39]⟩ : ByteArray), (⟨#[93, 93, 62]⟩ : ByteArray), (⟨#[45, 45]⟩ : ByteArray), (⟨#[9]⟩ : ByteArray), (⟨#[13]⟩ : ByteArray), (⟨#[0]⟩ : ByteArray), (⟨#[255]⟩ : ByteArray), (⟨#[192, 128]⟩ : ByteArray), (⟨#[239, 191, 190]⟩ : ByteArray)] : List ByteArray)) := ⟨_, rfl⟩
    replace H : ((spec_l1Str.f s0_0 x1001_1 x1002_1 y153).bind fun bt156 => (if x3_1.size + bt156.1.size ≤ 9223372036854775807 then (spec_l1Text.l0 k1 (x3_1 ++ bt156.1) (wrap64 (x4_1 - 1)) s0_0 bt156.2.1 bt156.2.2) else (none))) = some (r1, r2, r3) := by first | (rw [hy153]; with_reducible exact H) | (have H2_ := (Option.bind_some _ _).symm.trans H; rw [hy153]; with_reducible exact H2_) | (have H2_ := (Option.bind_some _ _).symm.trans H; with_reducible exact H2_) | with_reducible exact H | (rw [hy153]; exact H) | exact H
    have Ny153 := Aside0.mk hy153
    clear hy153
    replace H := Option.bind_eq_some_iff.mp H
    obtain ⟨⟨t156, t157, t158⟩, A50, H⟩ := H
    replace H : (if x3_1.size + t156.size ≤ 9223372036854775807 then (spec_l1Text.l0 k1 (x3_1 ++ t156) (wrap64 (x4_1 - 1)) s0_0 t157 t158) else (none)) = some (r1, r2, r3) := H
    have A5 := Aside0.mk A50
    clear A50
    by_cases c6 : x3_1.size + t156.size ≤ 9223372036854775807
    ·rw [if_pos c6] at H
     have c6b0 := eq_true c6
     have c6b1 : decide (x3_1.size + t156.size ≤ 9223372036854775807) = true := decide_eq_true c6
     try have c6b2 : (9223372036854775807 < x3_1.size + t156.size) = False := eq_false (Nat.not_lt.2 c6)
     have H' := Aside0.mk H
     clear H
     go_wp2_with (first | ((with_reducible refine gate_dst (N := 13) rfl ?_); refine Kd.R_lit Kd.string _ 9 ?hg (N := 13) ?hd (xs := ([(⟨#[97]⟩ : ByteArray), (⟨#[98, 32, 99]⟩ : ByteArray), (⟨#[32]⟩ : ByteArray), (⟨#[10]⟩ : ByteArray), (⟨#[195, 169]⟩ : ByteArray), (⟨#[226, 130, 172]⟩ : ByteArray), (⟨#[240, 159, 152, 128]⟩ : ByteArray), (⟨#[60]⟩ : ByteArray), (⟨#[38]⟩ : ByteArray), (⟨#[62]⟩ : ByteArray), (⟨#[34]⟩ : ByteArray), (⟨#[39]⟩ : ByteArray), (⟨#[93, 93, 62]⟩ : ByteArray), (⟨#[45, 45]⟩ : ByteArray), (⟨#[9]⟩ : ByteArray), (⟨#[13]⟩ : ByteArray), (⟨#[0]⟩ : ByteArray), (⟨#[255]⟩ : ByteArray), (⟨#[192, 128]⟩ : ByteArray), (⟨#[239, 191, 190]⟩ : ByteArray)] : List ByteArray)) (inner := [.string (⟨#[97]⟩ : ByteArray), .string (⟨#[98, 32, 99]⟩ : ByteArray), .string (⟨#[32]⟩ : ByteArray), .string (⟨#[10]⟩ : ByteArray), .string (⟨#[195, 169]⟩ : ByteArray), .string (⟨#[226, 130, 172]⟩ : ByteArray), .string (⟨#[240, 159, 152, 128]⟩ : ByteArray), .string (⟨#[60]⟩ : ByteArray), .string (⟨#[38]⟩ : ByteArray), .string (⟨#[62]⟩ : ByteArray), .string (⟨#[34]⟩ : ByteArray), .string (⟨#[39]⟩ : ByteArray), .string (⟨#[93, 93, 62]⟩ : ByteArray), .string (⟨#[45, 45]⟩ : ByteArray), .string (⟨#[9]⟩ : ByteArray), .string (⟨#[13]⟩ : ByteArray), .string (⟨#[0]⟩ : ByteArray), .string (⟨#[255]⟩ : ByteArray), .string (⟨#[192, 128]⟩ : ByteArray), .string (⟨#[239, 191, 190]⟩ : ByteArray)]) (ok := fun _ => True) (okp := fun _ => True) ?hr ?hp (fun _ hk => hk) trivial (Below.refl _ _) (Nat.le_refl _) (by simp) ?_; (case hd => rfl); (case hg => rfl); (case hr => first | (go_simp; done) | (go_simp; rfl)); (case hp => exact (Reps.one (show Kd.M Kd.string _ _ _ (⟨#[97]⟩ : ByteArray) [.string (⟨#[97]⟩ : ByteArray)] from rfl) (Reps.one (show Kd.M Kd.string _ _ _ (⟨#[98, 32, 99]⟩ : ByteArray) [.string (⟨#[98, 32, 99]⟩ : ByteArray)] from rfl) (Reps.one (show Kd.M Kd.string _ _ _ (⟨#[32]⟩ : ByteArray) [.string (⟨#[32]⟩ : ByteArray)] from rfl) (Reps.one (show Kd.M Kd.string _ _ _ (⟨#[10]⟩ : ByteArray) [.string (⟨#[10]⟩ : ByteArray)] from rfl) (Reps.one (show Kd.M Kd.string _ _ _ (⟨#[195, 169]⟩ : ByteArray) [.string (⟨#[195, 169]⟩ : ByteArray)] from rfl) (Reps.one (show Kd.M Kd.string _ _ _ (⟨#[226, 130, 172]⟩ : ByteArray) [.string (⟨#[226, 130, 172]⟩ : ByteArray)] from rfl) (Reps.one (show Kd.M Kd.string _ _ _ (⟨#[240, 159, 152, 128]⟩ : ByteArray) [.string (⟨#[240, 159, 152, 128]⟩ : ByteArray)] from rfl) (Reps.one (show Kd.M Kd.string _ _ _ (⟨#[60]⟩ : ByteArray) [.string (⟨#[60]⟩ : ByteArray)] from rfl) (Reps.one (show Kd.M Kd.string _ _ _ (⟨#[38]⟩ : ByteArray) [.string (⟨#[38]⟩ : ByteArray)] from rfl) (Reps.one (show Kd.M Kd.string _ _ _ (⟨#[62]⟩ : ByteArray) [.string (⟨#[62]⟩ : ByteArray)] from rfl) (Reps.one (show Kd.M Kd.string _ _ _ (⟨#[34]⟩ : ByteArray) [.string (⟨#[34]⟩ : ByteArray)] from rfl) (Reps.one (show Kd.M Kd.string _ _ _ (⟨#[39]⟩ : ByteArray) [.string (⟨#[39]⟩ : ByteArray)] from rfl) (Reps.one (show Kd.M Kd.string _ _ _ (⟨#[93, 93, 62]⟩ : ByteArray) [.string (⟨#[93, 93, 62]⟩ : ByteArray)] from rfl) (Reps.one (show Kd.M Kd.string _ _ _ (⟨#[45, 45]⟩ : ByteArray) [.string (⟨#[45, 45]⟩ : ByteArray)] from rfl) (Reps.one (show Kd.M Kd.string _ _ _ (⟨#[9]⟩ : ByteArray) [.string (⟨#[9]⟩ : ByteArray)] from rfl) (Reps.one (show Kd.M Kd.string _ _ _ (⟨#[13]⟩ : ByteArray) [.string (⟨#[13]⟩ : ByteArray)] from rfl) (Reps.one (show Kd.M Kd.string _ _ _ (⟨#[0]⟩ : ByteArray) [.string (⟨#[0]⟩ : ByteArray)] from rfl) (Reps.one (show Kd.M Kd.string _ _ _ (⟨#[255]⟩ : ByteArray) [.string (⟨#[255]⟩ : ByteArray)] from rfl) (Reps.one (show Kd.M Kd.string _ _ _ (⟨#[192, 128]⟩ : ByteArray) [.string (⟨#[192, 128]⟩ : ByteArray)] from rfl) (Reps.one (show Kd.M Kd.string _ _ _ (⟨#[239, 191, 190]⟩ : ByteArray) [.string (⟨#[239, 191, 190]⟩ : ByteArray)] from rfl) (Reps.none _ _)))))))))))))))))))))); intro v154 w7 ho8 hb hg_ hnew_; clear hg_ hnew_; (first | rw [← Ny153.out] at ho8 | (simp only [Int.reduceToNat] at ho8; rw [← Ny153.out] at ho8)); have n0_ := Aside0.mk (Kd.R_lower ho8 (keep_size (w := w) (g := g) (row := none) (by repeat (first|(with_reducible first|exact HK.out | apply KeepBut.set_ | apply keep_drewN | apply keep_drew | apply keep_alloc) | exact HK.out)))); have n1_ := Aside0.mk (IsS67.below (by repeat (first|(with_reducible first|exact HI0.out | apply IsS67.alloc | apply IsS67.drewN | apply IsS67.drew | apply IsS67.set_1 | apply IsS67.set_2) | exact HI0.out)) hb); have n2_ := Aside0.mk (KeepBut.trans (by repeat (first|(with_reducible first|exact HK.out | apply KeepBut.set_ | apply keep_drewN | apply keep_drew | apply keep_alloc) | exact HK.out)) (KeepBut.of_below hb g none) (.inl rfl)); have n3_ := Aside0.mk (below_step (by repeat (first|(with_reducible first|exact HB.out|apply zA|apply zN|apply zD | refine below_set ?_ (IsS67.ge HI0.out)) | exact HB.out)) hb); clear HI0; clear HK; clear HB; have HO155 := n0_; have HI0 := n1_; have HK := n2_; have HB := n3_; clear n0_ n1_ n2_ n3_; clear hb ho8; obtain ⟨Ao9, co9, eo9⟩ := Kd.R_slice HO155.out; subst eo9) | ((with_reducible refine gate_callee (f := 36) rfl ?_); refine goesL_ (some 14) rfl rfl Tryd.func36 (by kernel_rfl) rfl #[.pointer (some ⟨g, 0, none⟩), .slice Ao9 y153.length co9] rfl (by (try simp only [List.map_toArray, List.map_cons, List.map_nil]); first | done | rfl | (simp only [List.length_drop, List.length_take]; rfl)) ?_; (with_reducible refine (spec_l1Str.calls g s0_0 x1001_1 x1002_1 _ _ y153 t156 t157 t158 w0 _ ?side1 ?side2 ?side3 ?side4 ?side5 A5.out).mono ?_); (case side1 => repeat (first|(with_reducible first|exact HI0.out | apply IsS67.alloc | apply IsS67.drewN | apply IsS67.drew | apply IsS67.set_1 | apply IsS67.set_2) | exact HI0.out)); (case side2 => repeat (first|(with_reducible first|exact HB.out|apply zA|apply zN|apply zD | refine below_set ?_ (IsS67.ge HI0.out)) | exact HB.out)); (case side3 => repeat (first | exact (Kd.R_reads' HO155.out).2.2 | (with_reducible refine Kd.C_alloc ?_ _) | (with_reducible refine Kd.C_drewN ?_ _) | (with_reducible refine Kd.C_drew ?_))); (case side4 => exact (Kd.R_reads' HO155.out).2.1); (case side5 => exact far_slice (IsS67.own_ne HI0.out HO155.out (by decide))); rintro e w10 ⟨rfl, hi, hb, hk⟩; refine ⟨_, rfl, ?_⟩; have n0_ := Aside0.mk (Kd.R_mono (Kd.R_keep (IsS67.apart (show IsS67 w0 _ g s0_0 x1001_1 x1002_1 from by repeat (first|(with_reducible first|exact HI0.out | apply IsS67.alloc | apply IsS67.drewN | apply IsS67.drew | apply IsS67.set_1 | apply IsS67.set_2) | exact HI0.out)) (by (with_reducible repeat (first|apply rA|apply rN|apply rD)); exact HO155.out) (by decide)) hk (fun _ h => h.2)) (fun _ h => h.1)); have n1_ := Aside0.mk (KeepBut.trans (by repeat (first|(with_reducible first|exact HK.out | apply KeepBut.set_ | apply keep_drewN | apply keep_drew | apply keep_alloc) | exact HK.out)) hk (.inl rfl)); have n2_ := Aside0.mk (hb); have n3_ := Aside0.mk (hi); clear HO155; clear HK; clear HB; clear HI0; have HO155 := n0_; have HK := n1_; have HB := n2_; have HI0 := n3_; clear n0_ n1_ n2_ n3_; (try clear hb); (try clear hb2); (try clear hk); (try clear hi)))
     go_roundg k1
     case measure => have := HK1.out; omega
     case rel => exact ⟨(x3_1 ++ t156), (wrap64 (x4_1 - 1)), (t157), (t158), (by first | rfl | (simp; done) | (simp [*]; done)), (by first | rfl | (simp; done) | (simp [*]; done)), H', ⟨by have := HK1.out; omega⟩, ⟨by repeat (first|(with_reducible first|exact HI0.out | apply IsS67.alloc | apply IsS67.drewN | apply IsS67.drew | apply IsS67.set_1 | apply IsS67.set_2) | exact HI0.out)⟩, ⟨by repeat (first|(with_reducible first|exact HK.out | apply KeepBut.set_ | apply keep_drewN | apply keep_drew | apply keep_alloc) | exact HK.out)⟩, ⟨by repeat (first|(with_reducible first|exact HB.out|apply zA|apply zN|apply zD | refine below_set ?_ (IsS67.ge HI0.out)) | exact HB.out)⟩⟩
    ·rw [if_neg c6] at H
     exact absurd H (by simp)
   ·rw [if_neg c4] at H
    have c4b0 : decide (0 < x4_1) = false := decide_eq_false c4
    clear c4
    replace H := Option.bind_eq_some_iff.mp H
    obtain ⟨⟨t159, t160, t161⟩, A110, H⟩ := H
    replace H : (if t159 = true then (spec_l1Text.l1 k1 x3_1 s0_0 t160 t161) else (some (x3_1, t160, t161))) = some (r1, r2, r3) := H
    have A11 := Aside0.mk A110
    clear A110
    by_cases c12 : t159 = true
    ·subst c12
     have H1 : (spec_l1Text.l1 k1 x3_1 s0_0 t160 t161) = some (r1, r2, r3) := by rw [if_pos rfl] at H; exact H
     clear H
     have H := H1
     clear H1
     have H' := Aside0.mk H
     clear H
     go_wp2_with (first | ((with_reducible refine gate_callee (f := 25) rfl ?_); refine goesL_ (some 17) rfl rfl Tryd.func25 (by kernel_rfl) rfl #[.pointer (some ⟨g, 0, none⟩), .int .i64 40] rfl (by (try simp only [List.map_toArray, List.map_cons, List.map_nil]); first | done | rfl | (simp only [List.length_drop, List.length_take]; rfl)) ?_; (with_reducible refine (spec_l1Once.calls g s0_0 x1001_1 x1002_1 40 true t160 t161 w0 _ ?side1 ?side2 A11.out).mono ?_); (case side1 => repeat (first|(with_reducible first|exact HI0.out | apply IsS67.alloc | apply IsS67.drewN | apply IsS67.drew | apply IsS67.set_1 | apply IsS67.set_2) | exact HI0.out)); (case side2 => repeat (first|(with_reducible first|exact HB.out|apply zA|apply zN|apply zD | refine below_set ?_ (IsS67.ge HI0.out)) | exact HB.out)); rintro e w13 ⟨rfl, hi, hb, hk⟩; refine ⟨_, rfl, ?_⟩; have n0_ := Aside0.mk (KeepBut.trans (by repeat (first|(with_reducible first|exact HK.out | apply KeepBut.set_ | apply keep_drewN | apply keep_drew | apply keep_alloc) | exact HK.out)) hk (.inl rfl)); have n1_ := Aside0.mk (hb); have n2_ := Aside0.mk (hi); clear HK; clear HB; clear HI0; have HK := n0_; have HB := n1_; have HI0 := n2_; clear n0_ n1_ n2_; (try clear hb); (try clear hb2); (try clear hk); (try clear hi)))
     try simp only [Act.put, List.setIfInBounds_toArray, List.set_cons_zero, List.set_cons_succ]
     go_loopg [3] k1 (fun kq v3 w' => ∃ (x3_2 : ByteArray) (x1001_2 : Int) (x1002_2 : Int), v3 = .string x3_2 ∧ Aside0 (spec_l1Text.l1 kq x3_2 s0_0 x1001_2 x1002_2 = some (r1, r2, r3)) ∧ Aside0 (kq ≤ k1) ∧ Aside0 (IsS67 w0 w' g s0_0 x1001_2 x1002_2) ∧ Aside0 (KeepBut w w' g none) ∧ Aside0 (Below w0.heap.size w0 w'))
     case atStart => exact ⟨(x3_1), (t160), (t161), (by first | rfl | (simp; done) | (simp [*]; done)), H', ⟨Nat.le_refl _⟩, ⟨by repeat (first|(with_reducible first|exact HI0.out | apply IsS67.alloc | apply IsS67.drewN | apply IsS67.drew | apply IsS67.set_1 | apply IsS67.set_2) | exact HI0.out)⟩, ⟨by repeat (first|(with_reducible first|exact HK.out | apply KeepBut.set_ | apply keep_drewN | apply keep_drew | apply keep_alloc) | exact HK.out)⟩, ⟨by repeat (first|(with_reducible first|exact HB.out|apply zA|apply zN|apply zD | refine below_set ?_ (IsS67.ge HI0.out)) | exact HB.out)⟩⟩
     case round =>
      clear H'
      try clear c1
      try clear c2
      try clear p2
      try clear c3
      try clear c4
      try clear c4b0
      try clear c6
      try clear c6b0
      try clear c6b1
      try clear c6b2
      try clear p6
      try clear c12
      try clear p2
      obtain ⟨x3_2, x1001_2, x1002_2, rfl, HA, HK2, HI0, HK, HB⟩ := hrel
      cases gk with
      | zero => exact absurd HA.out (by simp [spec_l1Text.l1])
      | succ k2 =>
       have H := HA.out
       clear HA
       simp only [spec_l1Text.l1] at H
       obtain ⟨y162, hy162⟩ : ∃ y_ : List Int, y_ = (([600, 601] : List Int)) := ⟨_, rfl⟩
       replace H : ((spec_l1Int.f s0_0 x1001_2 x1002_2 y162).bind fun bt165 => (if (x3_2.size : Int) < bt165.1 then (if x3_2.size + 1 ≤ 9223372036854775807 then (spec_l1Text.l1 k2 (x3_2 ++ (⟨#[120]⟩ : ByteArray)) s0_0 bt165.2.1 bt165.2.2) else (none)) else (some (x3_2, bt165.2.1, bt165.2.2)))) = some (r1, r2, r3) := by first | (rw [hy162]; with_reducible exact H) | (have H2_ := (Option.bind_some _ _).symm.trans H; rw [hy162]; with_reducible exact H2_) | (have H2_ := (Option.bind_some _ _).symm.trans H; with_reducible exact H2_) | with_reducible exact H | (rw [hy162]; exact H) | exact H
       have Ny162 := Aside0.mk hy162
       clear hy162
       replace H := Option.bind_eq_some_iff.mp H
       obtain ⟨⟨t165, t166, t167⟩, A140, H⟩ := H
       replace H : (if (x3_2.size : Int) < t165 then (if x3_2.size + 1 ≤ 9223372036854775807 then (spec_l1Text.l1 k2 (x3_2 ++ (⟨#[120]⟩ : ByteArray)) s0_0 t166 t167) else (none)) else (some (x3_2, t166, t167))) = some (r1, r2, r3) := H
       have A14 := Aside0.mk A140
       clear A140
       by_cases c15 : (x3_2.size : Int) < t165
       ·rw [if_pos c15] at H
        have c15b0 : decide ((x3_2.size : Int) < t165) = true := decide_eq_true c15
        clear c15
        by_cases c16 : x3_2.size + 1 ≤ 9223372036854775807
        ·rw [if_pos c16] at H
         have c16b0 := eq_true c16
         have c16b1 : decide (x3_2.size + 1 ≤ 9223372036854775807) = true := decide_eq_true c16
         try have c16b2 : (9223372036854775807 < x3_2.size + 1) = False := eq_false (Nat.not_lt.2 c16)
         have H' := Aside0.mk H
         clear H
         go_wp2_with (first | ((with_reducible refine gate_dst (N := 21) rfl ?_); refine Kd.R_lit (Kd.int .i64) _ 3 ?hg (N := 21) ?hd (xs := ([600, 601] : List Int)) (inner := [.int .i64 600, .int .i64 601]) (ok := fun _ => True) (okp := fun _ => True) ?hr ?hp (fun _ hk => hk) trivial (Below.refl _ _) (Nat.le_refl _) (by simp) ?_; (case hd => rfl); (case hg => rfl); (case hr => first | (go_simp; done) | (go_simp; rfl)); (case hp => exact (Reps.one (show Kd.M (Kd.int .i64) _ _ _ 600 [.int .i64 600] from rfl) (Reps.one (show Kd.M (Kd.int .i64) _ _ _ 601 [.int .i64 601] from rfl) (Reps.none _ _)))); intro v163 w17 ho18 hb hg_ hnew_; clear hg_ hnew_; (first | rw [← Ny162.out] at ho18 | (simp only [Int.reduceToNat] at ho18; rw [← Ny162.out] at ho18)); have n0_ := Aside0.mk (Kd.R_lower ho18 (keep_size (w := w) (g := g) (row := none) (by repeat (first|(with_reducible first|exact HK.out | apply KeepBut.set_ | apply keep_drewN | apply keep_drew | apply keep_alloc) | exact HK.out)))); have n1_ := Aside0.mk (IsS67.below (by repeat (first|(with_reducible first|exact HI0.out | apply IsS67.alloc | apply IsS67.drewN | apply IsS67.drew | apply IsS67.set_1 | apply IsS67.set_2) | exact HI0.out)) hb); have n2_ := Aside0.mk (KeepBut.trans (by repeat (first|(with_reducible first|exact HK.out | apply KeepBut.set_ | apply keep_drewN | apply keep_drew | apply keep_alloc) | exact HK.out)) (KeepBut.of_below hb g none) (.inl rfl)); have n3_ := Aside0.mk (below_step (by repeat (first|(with_reducible first|exact HB.out|apply zA|apply zN|apply zD | refine below_set ?_ (IsS67.ge HI0.out)) | exact HB.out)) hb); clear HI0; clear HK; clear HB; have HO164 := n0_; have HI0 := n1_; have HK := n2_; have HB := n3_; clear n0_ n1_ n2_ n3_; clear hb ho18; obtain ⟨Ao19, co19, eo19⟩ := Kd.R_slice HO164.out; subst eo19) | ((with_reducible refine gate_callee (f := 42) rfl ?_); refine goesL_ (some 22) rfl rfl Tryd.func42 (by kernel_rfl) rfl #[.pointer (some ⟨g, 0, none⟩), .slice Ao19 y162.length co19] rfl (by (try simp only [List.map_toArray, List.map_cons, List.map_nil]); first | done | rfl | (simp only [List.length_drop, List.length_take]; rfl)) ?_; (with_reducible refine (spec_l1Int.calls g s0_0 x1001_2 x1002_2 _ _ y162 t165 t166 t167 w0 _ ?side1 ?side2 ?side3 ?side4 ?side5 A14.out).mono ?_); (case side1 => repeat (first|(with_reducible first|exact HI0.out | apply IsS67.alloc | apply IsS67.drewN | apply IsS67.drew | apply IsS67.set_1 | apply IsS67.set_2) | exact HI0.out)); (case side2 => repeat (first|(with_reducible first|exact HB.out|apply zA|apply zN|apply zD | refine below_set ?_ (IsS67.ge HI0.out)) | exact HB.out)); (case side3 => repeat (first | exact (Kd.R_reads' HO164.out).2.2 | (with_reducible refine Kd.C_alloc ?_ _) | (with_reducible refine Kd.C_drewN ?_ _) | (with_reducible refine Kd.C_drew ?_))); (case side4 => exact (Kd.R_reads' HO164.out).2.1); (case side5 => exact far_slice (IsS67.own_ne HI0.out HO164.out (by decide))); rintro e w20 ⟨rfl, hi, hb, hk⟩; refine ⟨_, rfl, ?_⟩; have n0_ := Aside0.mk (Kd.R_mono (Kd.R_keep (IsS67.apart (show IsS67 w0 _ g s0_0 x1001_2 x1002_2 from by repeat (first|(with_reducible first|exact HI0.out | apply IsS67.alloc | apply IsS67.drewN | apply IsS67.drew | apply IsS67.set_1 | apply IsS67.set_2) | exact HI0.out)) (by (with_reducible repeat (first|apply rA|apply rN|apply rD)); exact HO164.out) (by decide)) hk (fun _ h => h.2)) (fun _ h => h.1)); have n1_ := Aside0.mk (KeepBut.trans (by repeat (first|(with_reducible first|exact HK.out | apply KeepBut.set_ | apply keep_drewN | apply keep_drew | apply keep_alloc) | exact HK.out)) hk (.inl rfl)); have n2_ := Aside0.mk (hb); have n3_ := Aside0.mk (hi); clear HO164; clear HK; clear HB; clear HI0; have HO164 := n0_; have HK := n1_; have HB := n2_; have HI0 := n3_; clear n0_ n1_ n2_ n3_; (try clear hb); (try clear hb2); (try clear hk); (try clear hi)))
         go_roundg k2
         case measure => have := HK1.out; have := HK2.out; omega
         case rel => exact ⟨(x3_2 ++ (⟨#[120]⟩ : ByteArray)), (t166), (t167), (by first | rfl | (simp; done) | (simp [*]; done)), H', ⟨by have := HK1.out; have := HK2.out; omega⟩, ⟨by repeat (first|(with_reducible first|exact HI0.out | apply IsS67.alloc | apply IsS67.drewN | apply IsS67.drew | apply IsS67.set_1 | apply IsS67.set_2) | exact HI0.out)⟩, ⟨by repeat (first|(with_reducible first|exact HK.out | apply KeepBut.set_ | apply keep_drewN | apply keep_drew | apply keep_alloc) | exact HK.out)⟩, ⟨by repeat (first|(with_reducible first|exact HB.out|apply zA|apply zN|apply zD | refine below_set ?_ (IsS67.ge HI0.out)) | exact HB.out)⟩⟩
        ·rw [if_neg c16] at H
         exact absurd H (by simp)
       ·rw [if_neg c15] at H
        have c15b0 : decide ((x3_2.size : Int) < t165) = false := decide_eq_false c15
        clear c15
        simp only [Option.some.injEq, Prod.mk.injEq] at H
        obtain ⟨rfl, rfl, rfl⟩ := H
        go_wp2_with (first | ((with_reducible refine gate_dst (N := 21) rfl ?_); refine Kd.R_lit (Kd.int .i64) _ 3 ?hg (N := 21) ?hd (xs := ([600, 601] : List Int)) (inner := [.int .i64 600, .int .i64 601]) (ok := fun _ => True) (okp := fun _ => True) ?hr ?hp (fun _ hk => hk) trivial (Below.refl _ _) (Nat.le_refl _) (by simp) ?_; (case hd => rfl); (case hg => rfl); (case hr => first | (go_simp; done) | (go_simp; rfl)); (case hp => exact (Reps.one (show Kd.M (Kd.int .i64) _ _ _ 600 [.int .i64 600] from rfl) (Reps.one (show Kd.M (Kd.int .i64) _ _ _ 601 [.int .i64 601] from rfl) (Reps.none _ _)))); intro v163 w21 ho22 hb hg_ hnew_; clear hg_ hnew_; (first | rw [← Ny162.out] at ho22 | (simp only [Int.reduceToNat] at ho22; rw [← Ny162.out] at ho22)); have n0_ := Aside0.mk (Kd.R_lower ho22 (keep_size (w := w) (g := g) (row := none) (by repeat (first|(with_reducible first|exact HK.out | apply KeepBut.set_ | apply keep_drewN | apply keep_drew | apply keep_alloc) | exact HK.out)))); have n1_ := Aside0.mk (IsS67.below (by repeat (first|(with_reducible first|exact HI0.out | apply IsS67.alloc | apply IsS67.drewN | apply IsS67.drew | apply IsS67.set_1 | apply IsS67.set_2) | exact HI0.out)) hb); have n2_ := Aside0.mk (KeepBut.trans (by repeat (first|(with_reducible first|exact HK.out | apply KeepBut.set_ | apply keep_drewN | apply keep_drew | apply keep_alloc) | exact HK.out)) (KeepBut.of_below hb g none) (.inl rfl)); have n3_ := Aside0.mk (below_step (by repeat (first|(with_reducible first|exact HB.out|apply zA|apply zN|apply zD | refine below_set ?_ (IsS67.ge HI0.out)) | exact HB.out)) hb); clear HI0; clear HK; clear HB; have HO164 := n0_; have HI0 := n1_; have HK := n2_; have HB := n3_; clear n0_ n1_ n2_ n3_; clear hb ho22; obtain ⟨Ao23, co23, eo23⟩ := Kd.R_slice HO164.out; subst eo23) | ((with_reducible refine gate_callee (f := 42) rfl ?_); refine goesL_ (some 22) rfl rfl Tryd.func42 (by kernel_rfl) rfl #[.pointer (some ⟨g, 0, none⟩), .slice Ao23 y162.length co23] rfl (by (try simp only [List.map_toArray, List.map_cons, List.map_nil]); first | done | rfl | (simp only [List.length_drop, List.length_take]; rfl)) ?_; (with_reducible refine (spec_l1Int.calls g s0_0 x1001_2 x1002_2 _ _ y162 t165 t166 t167 w0 _ ?side1 ?side2 ?side3 ?side4 ?side5 A14.out).mono ?_); (case side1 => repeat (first|(with_reducible first|exact HI0.out | apply IsS67.alloc | apply IsS67.drewN | apply IsS67.drew | apply IsS67.set_1 | apply IsS67.set_2) | exact HI0.out)); (case side2 => repeat (first|(with_reducible first|exact HB.out|apply zA|apply zN|apply zD | refine below_set ?_ (IsS67.ge HI0.out)) | exact HB.out)); (case side3 => repeat (first | exact (Kd.R_reads' HO164.out).2.2 | (with_reducible refine Kd.C_alloc ?_ _) | (with_reducible refine Kd.C_drewN ?_ _) | (with_reducible refine Kd.C_drew ?_))); (case side4 => exact (Kd.R_reads' HO164.out).2.1); (case side5 => exact far_slice (IsS67.own_ne HI0.out HO164.out (by decide))); rintro e w24 ⟨rfl, hi, hb, hk⟩; refine ⟨_, rfl, ?_⟩; have n0_ := Aside0.mk (Kd.R_mono (Kd.R_keep (IsS67.apart (show IsS67 w0 _ g s0_0 x1001_2 x1002_2 from by repeat (first|(with_reducible first|exact HI0.out | apply IsS67.alloc | apply IsS67.drewN | apply IsS67.drew | apply IsS67.set_1 | apply IsS67.set_2) | exact HI0.out)) (by (with_reducible repeat (first|apply rA|apply rN|apply rD)); exact HO164.out) (by decide)) hk (fun _ h => h.2)) (fun _ h => h.1)); have n1_ := Aside0.mk (KeepBut.trans (by repeat (first|(with_reducible first|exact HK.out | apply KeepBut.set_ | apply keep_drewN | apply keep_drew | apply keep_alloc) | exact HK.out)) hk (.inl rfl)); have n2_ := Aside0.mk (hb); have n3_ := Aside0.mk (hi); clear HO164; clear HK; clear HB; clear HI0; have HO164 := n0_; have HK := n1_; have HB := n2_; have HI0 := n3_; clear n0_ n1_ n2_ n3_; (try clear hb); (try clear hb2); (try clear hk); (try clear hi)))
        go_ret
        exact ⟨by first | rfl | (simp [errW_none, errW_some] <;> rfl) | (simp [*, errW_none, errW_some] <;> rfl), by repeat (first|(with_reducible first|exact HI0.out | apply IsS67.alloc | apply IsS67.drewN | apply IsS67.drew | apply IsS67.set_1 | apply IsS67.set_2) | exact HI0.out), by repeat (first|(with_reducible first|exact HB.out|apply zA|apply zN|apply zD | refine below_set ?_ (IsS67.ge HI0.out)) | exact HB.out), by repeat (first|(with_reducible first|exact HK.out | apply KeepBut.set_ | apply keep_drewN | apply keep_drew | apply keep_alloc) | exact HK.out)⟩
    ·replace c12 := Bool.eq_false_iff.mpr c12
     subst c12
     have H1 : (some (x3_1, t160, t161)) = some (r1, r2, r3) := by rw [if_neg (show ¬ (false = true) by decide)] at H; exact H
     clear H
     have H := H1
     clear H1
     simp only [Option.some.injEq, Prod.mk.injEq] at H
     obtain ⟨rfl, rfl, rfl⟩ := H
     go_wp2_with (first | ((with_reducible refine gate_callee (f := 25) rfl ?_); refine goesL_ (some 17) rfl rfl Tryd.func25 (by kernel_rfl) rfl #[.pointer (some ⟨g, 0, none⟩), .int .i64 40] rfl (by (try simp only [List.map_toArray, List.map_cons, List.map_nil]); first | done | rfl | (simp only [List.length_drop, List.length_take]; rfl)) ?_; (with_reducible refine (spec_l1Once.calls g s0_0 x1001_1 x1002_1 40 false t160 t161 w0 _ ?side1 ?side2 A11.out).mono ?_); (case side1 => repeat (first|(with_reducible first|exact HI0.out | apply IsS67.alloc | apply IsS67.drewN | apply IsS67.drew | apply IsS67.set_1 | apply IsS67.set_2) | exact HI0.out)); (case side2 => repeat (first|(with_reducible first|exact HB.out|apply zA|apply zN|apply zD | refine below_set ?_ (IsS67.ge HI0.out)) | exact HB.out)); rintro e w25 ⟨rfl, hi, hb, hk⟩; refine ⟨_, rfl, ?_⟩; have n0_ := Aside0.mk (KeepBut.trans (by repeat (first|(with_reducible first|exact HK.out | apply KeepBut.set_ | apply keep_drewN | apply keep_drew | apply keep_alloc) | exact HK.out)) hk (.inl rfl)); have n1_ := Aside0.mk (hb); have n2_ := Aside0.mk (hi); clear HK; clear HB; clear HI0; have HK := n0_; have HB := n1_; have HI0 := n2_; clear n0_ n1_ n2_; (try clear hb); (try clear hb2); (try clear hk); (try clear hi)))
     go_ret
     exact ⟨by first | rfl | (simp [errW_none, errW_some] <;> rfl) | (simp [*, errW_none, errW_some] <;> rfl), by repeat (first|(with_reducible first|exact HI0.out | apply IsS67.alloc | apply IsS67.drewN | apply IsS67.drew | apply IsS67.set_1 | apply IsS67.set_2) | exact HI0.out), by repeat (first|(with_reducible first|exact HB.out|apply zA|apply zN|apply zD | refine below_set ?_ (IsS67.ge HI0.out)) | exact HB.out), by repeat (first|(with_reducible first|exact HK.out | apply KeepBut.set_ | apply keep_drewN | apply keep_drew | apply keep_alloc) | exact HK.out)⟩

/-! ### spec_l1Bend: function 31 -/
/-- The bytes of a text, as whole numbers. -/
def spec_l1Bend.ns (s : ByteArray) : List Int := s.data.toList.map fun b => (b.toNat : Int)
theorem spec_l1Bend.ns_length (s : ByteArray) : (spec_l1Bend.ns s).length = s.size := by
  unfold spec_l1Bend.ns
  rw [List.length_map, Array.length_toList]
  rfl
/-- The row that the turned text is: block B, cap places, and ahead the numbers xs. -/
structure spec_l1Bend.Row (W : World) (B cap : Nat) (xs : List Int) : Prop where
  le : xs.length ≤ cap
  cell : ∀ j, j < xs.length → W.cell? ⟨B, j, none⟩ = some (.int .u8 (xs.getD j 0))
  is_ : ∀ j, j < cap → (W.cell? ⟨B, j, none⟩).isSome = true
  fz : ∀ j, j < cap → W.frozen? ⟨B, j, none⟩ = false
theorem spec_l1Bend.Row.block {W W1 : World} {B cap : Nat} {xs : List Int} (h : spec_l1Bend.Row W B cap xs) (e : W1.heap[B]? = W.heap[B]?) : spec_l1Bend.Row W1 B cap xs := by
  have hc : ∀ j, W1.cell? ⟨B, j, none⟩ = W.cell? ⟨B, j, none⟩ := fun j => by simp only [World.cell?, e]
  have hf : ∀ j, W1.frozen? ⟨B, j, none⟩ = W.frozen? ⟨B, j, none⟩ := fun j => by simp only [World.frozen?, e]
  exact ⟨h.le, fun j hj => (hc j).trans (h.cell j hj), fun j hj => by rw [hc]; exact h.is_ j hj, fun j hj => (hf j).trans (h.fz j hj)⟩
theorem spec_l1Bend.Row.keep {W W1 : World} {B cap g : Nat} {xs : List Int} (h : spec_l1Bend.Row W B cap xs) (k : KeepBut W W1 g none) (hB : B < W.heap.size) (hg : B ≠ g) : spec_l1Bend.Row W1 B cap xs :=
  h.block (k.2 B hB hg (by simp))
theorem spec_l1Bend.Row.new (w : World) (s : ByteArray) : spec_l1Bend.Row (Go.Lib.bytesWorld w 5 s) w.heap.size (grownCap w s.size 0 5) (spec_l1Bend.ns s) := by
  have hge := grownCap_ge w s.size 0 5
  have hn := Go.Lib.bytesWorld_at_new w 5 s
  have hsz : (Go.Lib.bytesCells w 5 s).size = grownCap w s.size 0 5 := by
    simp only [Go.Lib.bytesCells, Array.size_append, Array.size_map, Array.size_replicate]
    have : s.data.size = s.size := rfl
    omega
  refine ⟨by rw [spec_l1Bend.ns_length]; exact hge, fun j hj => ?_, fun j hj => ?_, fun j hj => ?_⟩
  · rw [spec_l1Bend.ns_length] at hj
    rw [Go.Lib.bytesWorld_cell w 5 s j hj]
    have hj' : j < s.data.size := hj
    simp [spec_l1Bend.ns, List.getD, Array.getElem?_eq_getElem hj']
  · have hc : (Go.Lib.bytesWorld w 5 s).cell? ⟨w.heap.size, j, none⟩ = (Go.Lib.bytesCells w 5 s)[j]? := by simp [World.cell?, hn]
    rw [hc]
    simp [hsz, hj]
  · simp [World.frozen?, hn, hsz]
    omega
theorem spec_l1Bend.Row.set {W : World} {B cap : Nat} {xs : List Int} (h : spec_l1Bend.Row W B cap xs) (i : Nat) (v : Int) (hi : i < xs.length) : spec_l1Bend.Row (W.setCell ⟨B, i, none⟩ (.int .u8 v)) B cap (xs.set i v) := by
  have hle := h.le
  refine ⟨by simpa using h.le, fun j hj => ?_, fun j hj => ?_, fun j hj => ?_⟩
  · rw [List.length_set] at hj
    by_cases e : i = j
    · subst e
      rw [World.cell?_setCell_same W _ _ (h.cell i hi)]
      simp [List.getD, hi]
    · rw [World.cell?_setCell_other W _ _ _ (by simp [e]), h.cell j hj]
      simp [List.getD, List.getElem?_set, e]
  · by_cases e : i = j
    · subst e
      rw [World.cell?_setCell_same W _ _ (h.cell i hi)]
      rfl
    · rw [World.cell?_setCell_other W _ _ _ (by simp [e])]
      exact h.is_ j hj
  · rw [World.frozen?_setCell]
    exact h.fz j hj
theorem spec_l1Bend.keep_set {w W : World} {g B j : Nat} (h : KeepBut w W g none) (hB : w.heap.size ≤ B) (_hg : g ≠ B) (v : Value) : KeepBut w (W.setCell ⟨B, j, none⟩ v) g none :=
  ⟨by simpa [World.setCell] using h.1, fun i hi hg hr => (Below.heap_setCell W ⟨B, j, none⟩ v i (by show i ≠ B; omega)).trans (h.2 i hi hg hr)⟩
theorem spec_l1Bend.heap_cells (B : Nat) : ∀ (vs : List Value) (o : Nat) (W : World) (k : Nat), k ≠ B → (W.setCells B o vs).heap[k]? = W.heap[k]?
  | [], _, _, _, _ => rfl
  | v :: r, o, W, k, h => by
    rw [World.setCells, spec_l1Bend.heap_cells B r (o + 1) _ k h]
    exact Below.heap_setCell W ⟨B, o, none⟩ v k h
theorem spec_l1Bend.size_cells (B : Nat) : ∀ (vs : List Value) (o : Nat) (W : World), (W.setCells B o vs).heap.size = W.heap.size
  | [], _, _ => rfl
  | v :: r, o, W => by
    rw [World.setCells, spec_l1Bend.size_cells B r (o + 1)]
    simp [World.setCell]
theorem spec_l1Bend.below_cells {base : Nat} {w : World} (B : Nat) (hb : w.heap.size ≤ B) : ∀ (vs : List Value) (o : Nat) (W : World), Below w.heap.size w W → Below w.heap.size w (W.setCells B o vs)
  | [], _, _, h => h
  | v :: r, o, W, h => spec_l1Bend.below_cells (base := base) B hb r (o + 1) _ (below_set h hb)
theorem spec_l1Bend.is_cells {w0 : World} {g : Nat} {f0 : List Int} {f1 f2 : Int} (B : Nat) (hb : g ≠ B) : ∀ (vs : List Value) (o : Nat) (W : World), IsS67 w0 W g f0 f1 f2 → IsS67 w0 (W.setCells B o vs) g f0 f1 f2
  | [], _, _, h => h
  | v :: r, o, W, h => spec_l1Bend.is_cells B hb r (o + 1) _ (h.far (p := ⟨B, o, none⟩) hb v)
theorem spec_l1Bend.keep_cells {w W : World} {g B o : Nat} (h : KeepBut w W g none) (hB : w.heap.size ≤ B) (vs : List Value) : KeepBut w (W.setCells B o vs) g none :=
  ⟨by rw [spec_l1Bend.size_cells]; exact h.1, fun i hi hg hr => (spec_l1Bend.heap_cells B vs o W i (by omega)).trans (h.2 i hi hg hr)⟩
/-- The numbers behind place i, one to the left. -/
theorem spec_l1Bend.Row.del {W : World} {B cap : Nat} {xs : List Int} (h : spec_l1Bend.Row W B cap xs) (i : Nat) (hi : i < xs.length) : spec_l1Bend.Row (W.setCells B i ((xs.map (Value.int .u8)).drop (i + 1))) B cap (xs.take i ++ xs.drop (i + 1)) := by
  have hle := h.le
  have hl : ((xs.map (Value.int .u8)).drop (i + 1)).length = xs.length - (i + 1) := by simp
  have hin : ∀ j, j < xs.length - (i + 1) → (W.setCells B i ((xs.map (Value.int .u8)).drop (i + 1))).cell? ⟨B, i + j, none⟩ = some (.int .u8 (xs.getD (i + 1 + j) 0)) := by
    intro j hj
    rw [World.cell?_setCells_in B _ i W (fun q hq => h.is_ (i + q) (by omega)) j (by omega)]
    simp [List.getD, show i + 1 + j < xs.length by omega]
  have hout : ∀ j, (j < i ∨ xs.length - 1 ≤ j) → (W.setCells B i ((xs.map (Value.int .u8)).drop (i + 1))).cell? ⟨B, j, none⟩ = W.cell? ⟨B, j, none⟩ := by
    intro j hj
    exact World.cell?_setCells_out B _ i W _ (fun _ _ => by rw [hl]; show j < i ∨ i + (xs.length - (i + 1)) ≤ j; omega)
  refine ⟨by simp; omega, fun j hj => ?_, fun j hj => ?_, fun j hj => ?_⟩
  · have hj' : j < xs.length - 1 := by simp at hj; omega
    by_cases c : j < i
    · rw [hout j (.inl c), h.cell j (by omega)]
      simp [List.getD, List.getElem?_append, c, show j < xs.length by omega, show j < min i xs.length by omega]
    · obtain ⟨q, rfl⟩ : ∃ q, j = i + q := ⟨j - i, by omega⟩
      rw [hin q (by omega)]
      simp [List.getD, List.getElem?_append, show min i xs.length = i by omega, show ¬ i + q < i by omega]
  · by_cases c : j < i ∨ xs.length - 1 ≤ j
    · rw [hout j c]
      exact h.is_ j hj
    · obtain ⟨q, rfl⟩ : ∃ q, j = i + q := ⟨j - i, by omega⟩
      rw [hin q (by omega)]
      rfl
  · rw [World.frozen?_setCells]
    exact h.fz j hj
theorem spec_l1Bend.conv {P : Program} {W : World} {o : Oper} {ev : Operand → Value} {x : Operand} {src dst : TypeId} (s : ByteArray) {u : TypeDesc} (ho : o.op = .convert src dst x) (hx : ev x = .string s) (hs : P.underlying src = some u) (hd : P.underlying dst = some (.slice 5)) (he : P.underlying 5 = some (.int .u8)) :
    (execOp ev o).run P W = .ok (.value (.slice (some ⟨W.heap.size, 0, none⟩) s.size (grownCap W s.size 0 5))) (Go.Lib.bytesWorld W 5 s) := by
  unfold execOp
  simp only [ho, hx, Go.Lib.run_convert_string_bytes W src dst 5 s hs hd he, Sem.run_bind, Sem.run_pure, Result.andThen_ok]
theorem spec_l1Bend.back {P : Program} {W : World} {o : Oper} {ev : Operand → Value} {x : Operand} {src dst : TypeId} {B cap n : Nat} {xs : List Int} (ho : o.op = .convert src dst x) (hx : ev x = .slice (some ⟨B, 0, none⟩) n cap) (h : spec_l1Bend.Row W B cap xs) (hn : xs.length = n) (hs : P.underlying src = some (.slice 5)) (hd : P.underlying dst = some .string) (he : P.underlying 5 = some (.int .u8)) :
    (execOp ev o).run P W = .ok (.value (.string (strOfNums xs))) W := by
  have hr := run_convert_bytes_arg (P := P) W src 5 hs he B 0 n cap xs hn (fun i hi => by rw [Nat.zero_add]; exact h.cell i (by omega)) dst hd
  unfold execOp
  simp only [ho, hx, hr, Sem.run_bind, Sem.run_pure, Result.andThen_ok]
theorem spec_l1Bend.below_new (w : World) (s : ByteArray) : Below w.heap.size w (Go.Lib.bytesWorld w 5 s) := by
  refine ⟨?_, ?_, ?_, ?_, fun k hk => Go.Lib.bytesWorld_at_old w 5 s k hk⟩
  · simp [Go.Lib.bytesWorld, World.freeze, World.alloc, World.drew, -World.alloc_eq, -World.drew_eq]
  · simp [Go.Lib.bytesWorld, World.freeze, World.alloc, World.drew, -World.alloc_eq, -World.drew_eq]
  · simp [Go.Lib.bytesWorld, World.freeze, World.alloc, World.drew, -World.alloc_eq, -World.drew_eq]
  · rw [Go.Lib.bytesWorld_size]; omega
theorem spec_l1Bend.own_step {P : Program} {ops : Array Oper} {o : Oper} {a : Act} {W : World} {K : Act → World → Prop} {Q : Exit → Act → World → Prop} {E : Prop} (base : Nat) (hg : o.guard = none) (s x : Operand) (t : TypeId)
    (ho : o.op = .call { callee := .builtin .append, args := #[s, x], argTypes := #[t, t] }) (i : TypeInfo) (ht : P.underlying t = some (.slice 5)) (hi : P.info? 5 = some i) (hz : i.zero = some (.int .u8 0)) (hs : i.size = 1) (hb : i.bytes = 1)
    (v : Value) (n : Nat) (xs : List Value) (hv : a.eval s = v) (hown : W.ownsRow base 5 1 v n xs) (ad : Addr) (m c : Nat) (news : List Value) (hx : a.eval x = .slice (some ad) m c) (hl : news.length = m)
    (hnews : ∀ j u, news[j]? = some u → W.cell? (ad.add j) = some u) (h1 : ∀ u ∈ news, u.oneCell' = true) (hsum : n + m ≤ 100000) (hbase : base ≤ W.heap.size)
    (h : ∀ v1 w1, w1.ownsRow base 5 1 v1 (n + m) (xs ++ news) → W.grownBy w1 v.ownBlock → K (a.put o.dst v1) w1) : if Region.wanted o (yielded ops a.tmps) = true then Oper.wp P o a W K Q else E := by
  have hw : Region.wanted o (yielded ops a.tmps) = true := by simp [Region.wanted, hg]
  rw [if_pos hw]
  obtain ⟨v1, w1, hr, h2, h3, _⟩ := run_append_own (P := P) W base t o.type 5 i (.int .u8 0) 1 1 ht hi hz hs hb rfl (by decide) v n xs hown ad m c news (by rw [Nat.mul_one]; exact hl) hnews h1 (by simp only [maxLen]; omega) (by omega) hbase
  unfold Oper.wp execOp
  simp only [ho, resolve, invoke, builtin, Sem.run_bind, Sem.run_pure, Result.andThen_ok, List.map_toArray, List.map_cons, List.map_nil, hv, hx, hr]
  exact h v1 w1 h2 h3
theorem spec_l1Bend.str_step {P : Program} {ops : Array Oper} {o : Oper} {a : Act} {W : World} {K : Act → World → Prop} {Q : Exit → Act → World → Prop} {E : Prop} (base : Nat) (hg : o.guard = none) (s x : Operand) (t u : TypeId)
    (ho : o.op = .call { callee := .builtin .append, args := #[s, x], argTypes := #[t, u] }) (i : TypeInfo) (ht : P.underlying t = some (.slice 5)) (hu : P.underlying u = some .string) (hi : P.info? 5 = some i) (hz : i.zero = some (.int .u8 0)) (hs : i.size = 1) (hb : i.bytes = 1)
    (v : Value) (n : Nat) (xs : List Value) (hv : a.eval s = v) (hown : W.ownsRow base 5 1 v n xs) (z : ByteArray) (hx : a.eval x = .string z) (hsum : n + z.size ≤ 100000) (hbase : base ≤ W.heap.size)
    (h : ∀ v1 w1, w1.ownsRow base 5 1 v1 (n + z.size) (xs ++ Go.Lib.strCells z) → W.grownBy w1 v.ownBlock → K (a.put o.dst v1) w1) : if Region.wanted o (yielded ops a.tmps) = true then Oper.wp P o a W K Q else E := by
  have hw : Region.wanted o (yielded ops a.tmps) = true := by simp [Region.wanted, hg]
  rw [if_pos hw]
  obtain ⟨v1, w1, hr, h2, h3, _⟩ := Go.Lib.run_append_own_string (P := P) W base t u o.type 5 i ht hu hi hz hs hb v n xs hown z (by simp only [maxLen]; omega) (by omega) hbase
  unfold Oper.wp execOp
  simp only [ho, resolve, invoke, builtin, Sem.run_bind, Sem.run_pure, Result.andThen_ok, List.map_toArray, List.map_cons, List.map_nil, hv, hx, hr]
  exact h v1 w1 h2 h3
theorem spec_l1Bend.own_back {P : Program} {W : World} {o : Oper} {ev : Operand → Value} {x : Operand} {src dst : TypeId} {base n : Nat} {v : Value} {xs : List Int} (ho : o.op = .convert src dst x) (hx : ev x = v) (h : W.ownsRow base 5 1 v n (xs.map (Value.int .u8))) (hs : P.underlying src = some (.slice 5)) (hd : P.underlying dst = some .string) (he : P.underlying 5 = some (.int .u8)) :
    (execOp ev o).run P W = .ok (.value (.string (strOfNums xs))) W := by
  have hl : xs.length = n := by simpa using h.1
  have hr : (convert src dst v).run P W = .ok (.string (strOfNums xs)) W := by
    rcases h.2 with ⟨rfl, h0⟩ | ⟨b, cap, cur, rfl, _⟩
    · have hn : xs = [] := List.eq_nil_of_length_eq_zero (by omega)
      rw [hn]
      exact run_convert_bytes_nil (P := P) W src 5 hs he 0 0 dst hd
    · refine run_convert_bytes_arg (P := P) W src 5 hs he b 0 n cap xs hl (fun i hi => ?_) dst hd
      have := h.cells (g := b) rfl i (.int .u8 (xs.getD i 0)) (by simp [List.getD, show i < xs.length by omega])
      rw [Addr.add_lit] at this
      exact this
  unfold execOp
  simp only [ho, hx, hr, Sem.run_bind, Sem.run_pure, Result.andThen_ok]
theorem spec_l1Bend.Row.grown {W W1 : World} {B cap : Nat} {xs : List Int} {row : Option Nat} (h : spec_l1Bend.Row W B cap xs) (k : W.grownBy W1 row) (hB : B < W.heap.size) (hr : some B ≠ row) : spec_l1Bend.Row W1 B cap xs := h.block (k.block B hB hr)
def spec_l1Bend.f (s0_0 : List Int) (s0_1 : Int) (s0_2 : Int) (a1 : ByteArray) : Option (ByteArray × Int × Int) :=
  if a1.size ≤ 4096 then ((spec_l1Below.f s0_0 s0_1 s0_2 8).bind fun t =>
    if t.1 = 0 then (if 0 < a1.size then ((spec_l1Below.f s0_0 t.2.1 t.2.2 (a1.size : Int)).bind fun u => ((spec_l1Below.f s0_0 u.2.1 u.2.2 255).bind fun z => if 0 ≤ u.1 ∧ u.1 < (a1.size : Int) then some (strOfNums ((spec_l1Bend.ns a1).set u.1.toNat (bits .xor .u8 ((spec_l1Bend.ns a1).getD u.1.toNat 0) (wrap64 (1 + z.1) % 256))), z.2.1, z.2.2) else none)) else some (strOfNums (spec_l1Bend.ns a1), t.2.1, t.2.2))
    else if t.1 = 1 then (if 0 < a1.size then ((spec_l1Below.f s0_0 t.2.1 t.2.2 (a1.size : Int)).bind fun u => if 0 ≤ u.1 ∧ u.1 < (a1.size : Int) then some (strOfNums ((spec_l1Bend.ns a1).take u.1.toNat ++ (spec_l1Bend.ns a1).drop (u.1.toNat + 1)), u.2.1, u.2.2) else none) else some (strOfNums (spec_l1Bend.ns a1), t.2.1, t.2.2))
    else if t.1 = 2 then ((spec_l1Below.f s0_0 t.2.1 t.2.2 ((a1.size : Int) + 1)).bind fun u => ((spec_l1Str.f s0_0 u.2.1 u.2.2 [(⟨#[60]⟩ : ByteArray), (⟨#[62]⟩ : ByteArray), (⟨#[38]⟩ : ByteArray), (⟨#[34]⟩ : ByteArray), (⟨#[39]⟩ : ByteArray), (⟨#[47]⟩ : ByteArray), (⟨#[32]⟩ : ByteArray), (⟨#[61]⟩ : ByteArray), (⟨#[10]⟩ : ByteArray), (⟨#[93]⟩ : ByteArray), (⟨#[120]⟩ : ByteArray), (⟨#[255]⟩ : ByteArray), (⟨#[45]⟩ : ByteArray)]).bind fun x => if 0 ≤ u.1 ∧ u.1 ≤ (a1.size : Int) ∧ x.1.size ≤ 4096 then some (strOfNums ((spec_l1Bend.ns a1).take u.1.toNat ++ (spec_l1Bend.ns x.1 ++ (spec_l1Bend.ns a1).drop u.1.toNat)), x.2.1, x.2.2) else none))
    else some (strOfNums (spec_l1Bend.ns a1), t.2.1, t.2.2)) else none
set_option maxHeartbeats 1000000 in
theorem spec_l1Bend.calls (g : Nat) (s0_0 : List Int) (s0_1 : Int) (s0_2 : Int) (a1 : ByteArray) (r1 : ByteArray) (r2 : Int) (r3 : Int) (w0 w : World) (hI : IsS67 w0 w g s0_0 s0_1 s0_2) (hB : Below w0.heap.size w0 w) (h : spec_l1Bend.f s0_0 s0_1 s0_2 a1 = some (r1, r2, r3)) :
    Calls Tryd.prog 31 #[.pointer (some ⟨g, 0, none⟩), .string a1] w fun e w' => e = .returned (.string r1) ∧ IsS67 w0 w' g s0_0 r2 r3 ∧ Below w0.heap.size w0 w' ∧ KeepBut w w' g none := by
  unfold spec_l1Bend.f at h
  by_cases hsz : a1.size ≤ 4096
  · rw [if_pos hsz] at h
    replace h := Option.bind_eq_some_iff.mp h
    obtain ⟨⟨t1, t2, t3⟩, hT, h⟩ := h
    dsimp only at h
    have hgw : w.heap.size ≠ g := Nat.ne_of_gt hI.lt
    have hwz := Go.Lib.bytesWorld_size w 5 a1
    have hb0 : Below w.heap.size w (Go.Lib.bytesWorld w 5 a1) := spec_l1Bend.below_new w a1
    have hB1 : Below w0.heap.size w0 (Go.Lib.bytesWorld w 5 a1) := below_step hB hb0
    have hI1 := hI.below hb0
    have hK1 : KeepBut w (Go.Lib.bytesWorld w 5 a1) g none := KeepBut.of_below hb0 g none
    have hR1 := spec_l1Bend.Row.new w a1
    have hT' := Aside0.mk hT
    clear hT
    by_cases h0 : t1 = 0
    · rw [if_pos h0] at h
      have d0 : decide (t1 = 0) = true := decide_eq_true h0
      by_cases hp : 0 < a1.size
      · rw [if_pos hp] at h
        replace h := Option.bind_eq_some_iff.mp h
        obtain ⟨⟨u1, u2, u3⟩, hU, h⟩ := h
        dsimp only at h
        replace h := Option.bind_eq_some_iff.mp h
        obtain ⟨⟨z1, z2, z3⟩, hZ, h⟩ := h
        dsimp only at h
        by_cases hu : 0 ≤ u1 ∧ u1 < (a1.size : Int)
        · rw [if_pos hu] at h
          obtain ⟨hu0, hu1⟩ := hu
          simp only [Option.some.injEq, Prod.mk.injEq] at h
          obtain ⟨rfl, rfl, rfl⟩ := h
          have dp : decide ((0 : Int) < (a1.size : Int)) = true := decide_eq_true (by omega)
          have hlen := spec_l1Bend.ns_length a1
          have hcap := hR1.le
          have hun : u1.toNat < (spec_l1Bend.ns a1).length := by rw [hlen]; omega
          have hU' := Aside0.mk hU
          have hZ' := Aside0.mk hZ
          clear hU hZ
          obtain ⟨y, hy⟩ : ∃ y, (spec_l1Bend.ns a1).getD u1.toNat 0 = y := ⟨_, rfl⟩
          rw [hy]
          have p1 := eq_true hu0
          have q1 := eq_true hu1
          go_enter Tryd.func31, Tryd.ntmps31
          go_wp2_with (first
            | ((with_reducible refine gate_dst (N := 11) rfl ?_); refine Kd.event_run rfl (spec_l1Bend.conv a1 rfl rfl Tryd.underlying9 Tryd.underlying22 Tryd.underlying5) ?_)
            | ((with_reducible refine gate_dst (N := 13) rfl ?_); refine goesL_ (some 13) rfl rfl Tryd.func27 (by kernel_rfl) rfl #[.pointer (some ⟨g, 0, none⟩), .int .i64 8] rfl (by (try simp only [List.map_toArray, List.map_cons, List.map_nil]); first | done | rfl) ?_; (with_reducible refine (spec_l1Below.calls g s0_0 s0_1 s0_2 8 t1 t2 t3 w0 _ hI1 hB1 hT'.out).mono ?_); rintro e w3 ⟨rfl, hi3, hb3, hk3⟩; refine ⟨_, rfl, ?_⟩; have hR3 := hR1.keep hk3 (by omega) hgw; have hK3 := hK1.trans hk3 (.inl rfl))
            | ((with_reducible refine gate_dst (N := 22) rfl ?_); refine goesL_ (some 22) rfl rfl Tryd.func27 (by kernel_rfl) rfl #[.pointer (some ⟨g, 0, none⟩), .int .i64 (a1.size : Int)] rfl (by (try simp only [List.map_toArray, List.map_cons, List.map_nil]); first | done | rfl) ?_; (with_reducible refine (spec_l1Below.calls g s0_0 t2 t3 (a1.size : Int) u1 u2 u3 w0 _ hi3 hb3 hU'.out).mono ?_); rintro e w4 ⟨rfl, hi4, hb4, hk4⟩; refine ⟨_, rfl, ?_⟩; have hR4 := hR3.keep hk4 (by have := hk3.1; omega) hgw; have hK4 := hK3.trans hk4 (.inl rfl); have hx4 := hR4.cell _ hun; rw [hy] at hx4))
          go_region_with (go_at_call 27; (with_reducible refine (spec_l1Below.calls g s0_0 u2 u3 255 z1 z2 z3 w0 _ hi4.drew (below_drew1 hb4) hZ'.out).mono ?_); rintro e w5 ⟨rfl, hi5, hb5, hk5⟩; have hR5 := (spec_l1Bend.Row.block (W1 := w4.drew) hR4 rfl).keep hk5 (by have := hk4.1; have := hk3.1; show _ < w4.heap.size; omega) hgw; have hK5 := (keep_drew hK4).trans hk5 (.inl rfl); have hx5 := hR5.cell _ hun; rw [hy] at hx5; have hf5 := hR5.fz u1.toNat (by omega); have hR6 := hR5.set u1.toNat (bits .xor .u8 y (IntKind.u8.wrap (IntKind.i64.wrap (1 + z1)))) hun)
          all_goals go_wp2_with (((with_reducible refine gate_dst (N := 74) rfl ?_); refine Kd.event_run rfl (spec_l1Bend.back (B := w.heap.size) (cap := grownCap w a1.size 0 5) (n := a1.size) rfl rfl hR6 (by rw [List.length_set]; exact hlen) Tryd.underlying22 Tryd.underlying9 Tryd.underlying5) ?_))
          all_goals go_ret
          all_goals exact ⟨rfl, hi5.far hgw.symm _, below_set hb5 hB.size, spec_l1Bend.keep_set hK5 (Nat.le_refl _) hgw.symm _⟩
        · rw [if_neg hu] at h
          cases h
      · rw [if_neg hp] at h
        simp only [Option.some.injEq, Prod.mk.injEq] at h
        obtain ⟨rfl, rfl, rfl⟩ := h
        have dp : decide ((0 : Int) < (a1.size : Int)) = false := decide_eq_false (by omega)
        go_enter Tryd.func31, Tryd.ntmps31
        go_wp2_with (first
            | ((with_reducible refine gate_dst (N := 11) rfl ?_); refine Kd.event_run rfl (spec_l1Bend.conv a1 rfl rfl Tryd.underlying9 Tryd.underlying22 Tryd.underlying5) ?_)
            | ((with_reducible refine gate_dst (N := 13) rfl ?_); refine goesL_ (some 13) rfl rfl Tryd.func27 (by kernel_rfl) rfl #[.pointer (some ⟨g, 0, none⟩), .int .i64 8] rfl (by (try simp only [List.map_toArray, List.map_cons, List.map_nil]); first | done | rfl) ?_; (with_reducible refine (spec_l1Below.calls g s0_0 s0_1 s0_2 8 t1 t2 t3 w0 _ hI1 hB1 hT'.out).mono ?_); rintro e w3 ⟨rfl, hi3, hb3, hk3⟩; refine ⟨_, rfl, ?_⟩; have hR3 := hR1.keep hk3 (by omega) hgw; have hK3 := hK1.trans hk3 (.inl rfl))
            | ((with_reducible refine gate_dst (N := 74) rfl ?_); refine Kd.event_run rfl (spec_l1Bend.back (B := w.heap.size) (cap := grownCap w a1.size 0 5) (n := a1.size) rfl rfl hR3 (spec_l1Bend.ns_length a1) Tryd.underlying22 Tryd.underlying9 Tryd.underlying5) ?_))
        go_ret
        exact ⟨rfl, hi3, hb3, hK3⟩
    · by_cases h1 : t1 = 1
      · rw [if_neg h0, if_pos h1] at h
        have d0 : decide (t1 = 0) = false := decide_eq_false h0
        have d1 : decide (t1 = 1) = true := decide_eq_true h1
        by_cases hp : 0 < a1.size
        · rw [if_pos hp] at h
          replace h := Option.bind_eq_some_iff.mp h
          obtain ⟨⟨u1, u2, u3⟩, hU, h⟩ := h
          dsimp only at h
          by_cases hu : 0 ≤ u1 ∧ u1 < (a1.size : Int)
          · rw [if_pos hu] at h
            obtain ⟨hu0, hu1⟩ := hu
            simp only [Option.some.injEq, Prod.mk.injEq] at h
            obtain ⟨rfl, rfl, rfl⟩ := h
            have dp : decide ((0 : Int) < (a1.size : Int)) = true := decide_eq_true (by omega)
            have hlen := spec_l1Bend.ns_length a1
            have hcap := hR1.le
            obtain ⟨i, rfl⟩ := Int.eq_ofNat_of_zero_le hu0
            simp only [Int.toNat_natCast]
            have hin : i < a1.size := by omega
            have hU' := Aside0.mk hU
            clear hU
            obtain ⟨i0, hi0, hz0, hz1, hz2⟩ := info_parts (show (Tryd.prog.info? 5).map (fun i => (i.zero, i.size, i.bytes)) = some (some (.int .u8 0), 1, 1) by kernel_rfl)
            have hcm : grownCap w a1.size 0 5 ≤ 9223372036854775807 := by have := grownCap_le_maxLen w a1.size 0 5 (by simp only [maxLen]; omega); simpa [maxLen] using this
            obtain ⟨cap, hcape⟩ : ∃ c, grownCap w a1.size 0 5 = c := ⟨_, rfl⟩
            rw [hcape] at hcm hcap hR1
            go_enter Tryd.func31, Tryd.ntmps31
            go_wp2_with (first
            | ((with_reducible refine gate_dst (N := 11) rfl ?_); refine Kd.event_run rfl (spec_l1Bend.conv a1 rfl rfl Tryd.underlying9 Tryd.underlying22 Tryd.underlying5) ?_)
            | ((with_reducible refine gate_dst (N := 13) rfl ?_); refine goesL_ (some 13) rfl rfl Tryd.func27 (by kernel_rfl) rfl #[.pointer (some ⟨g, 0, none⟩), .int .i64 8] rfl (by (try simp only [List.map_toArray, List.map_cons, List.map_nil]); first | done | rfl) ?_; (with_reducible refine (spec_l1Below.calls g s0_0 s0_1 s0_2 8 t1 t2 t3 w0 _ hI1 hB1 hT'.out).mono ?_); rintro e w3 ⟨rfl, hi3, hb3, hk3⟩; refine ⟨_, rfl, ?_⟩; have hR3 := hR1.keep hk3 (by omega) hgw; have hK3 := hK1.trans hk3 (.inl rfl))
            | ((with_reducible refine gate_dst (N := 43) rfl ?_); refine goesL_ (some 43) rfl rfl Tryd.func27 (by kernel_rfl) rfl #[.pointer (some ⟨g, 0, none⟩), .int .i64 (a1.size : Int)] rfl (by (try simp only [List.map_toArray, List.map_cons, List.map_nil]); first | done | rfl) ?_; (with_reducible refine (spec_l1Below.calls g s0_0 t2 t3 (a1.size : Int) (i : Int) u2 u3 w0 _ hi3 hb3 hU'.out).mono ?_); rintro e w4 ⟨rfl, hi4, hb4, hk4⟩; refine ⟨_, rfl, ?_⟩; have hR4 := hR3.keep hk4 (by have := hk3.1; omega) hgw; have hK4 := hK3.trans hk4 (.inl rfl)))
            obtain ⟨A, hA, hnews⟩ : ∃ A : Addr, (if cap = i + 1 then some (⟨w.heap.size, 0, none⟩ : Addr) else some ⟨w.heap.size, i + 1, none⟩) = some A ∧ Hid (∀ j u, (((spec_l1Bend.ns a1).map (Value.int .u8)).drop (i + 1))[j]? = some u → w4.drew.cell? (A.add j) = some u) := by
              by_cases hc : cap = i + 1
              · refine ⟨⟨w.heap.size, 0, none⟩, by simp [hc], fun j u hu => ?_⟩
                have h9 : ((spec_l1Bend.ns a1).map (Value.int .u8)).drop (i + 1) = [] := List.eq_nil_of_length_eq_zero (by rw [List.length_drop, List.length_map]; omega)
                rw [h9] at hu
                simp at hu
              · refine ⟨⟨w.heap.size, i + 1, none⟩, by simp [hc], fun j u hu => ?_⟩
                have hj : j < (spec_l1Bend.ns a1).length - (i + 1) := by
                  have := (List.getElem?_eq_some_iff.1 hu).1
                  simpa using this
                rw [Addr.add_lit]
                refine (hR4.cell (i + 1 + j) (by omega)).trans ?_
                rw [← hu]
                simp [List.getD, show i + 1 + j < (spec_l1Bend.ns a1).length by omega]
            have s1 : Hid ((((spec_l1Bend.ns a1).map (Value.int .u8)).drop (i + 1)).length = (a1.size - (i + 1)) * 1) := by
              show _ = _
              simp [hlen]
            have s2 : Hid (∀ u ∈ ((spec_l1Bend.ns a1).map (Value.int .u8)).drop (i + 1), u.oneCell' = true) := by
              intro u hu
              obtain ⟨x, _, rfl⟩ := List.mem_map.1 (List.mem_of_mem_drop hu)
              rfl
            have s3 : Hid (∀ j, j < (((spec_l1Bend.ns a1).map (Value.int .u8)).drop (i + 1)).length → (w4.drew.cell? ⟨w.heap.size, 0 + i * 1 + j, none⟩).isSome = true ∧ w4.drew.frozen? ⟨w.heap.size, 0 + i * 1 + j, none⟩ = false) := by
              intro j hj
              have hj' : j < a1.size - (i + 1) := by simpa [hlen] using hj
              exact ⟨hR4.is_ _ (by omega), hR4.fz _ (by omega)⟩
            have hic : i ≤ cap := by omega
            have hwr : IntKind.i64.wrap ((i : Int) + 1) = (i : Int) + 1 := by rw [IntKind.wrap_i64]; omega
            have hp0 : (0 : Int) ≤ (i : Int) + 1 := by omega
            have hp1 : (i : Int) + 1 ≤ (a1.size : Int) := by omega
            have hp2 : ((i : Int) + 1).toNat = i + 1 := by omega
            have hR5 := spec_l1Bend.Row.del (spec_l1Bend.Row.block (W1 := w4.drew) hR4 rfl) i (by omega)
            have hi5 := spec_l1Bend.is_cells w.heap.size hgw.symm (((spec_l1Bend.ns a1).map (Value.int .u8)).drop (i + 1)) i w4.drew hi4.drew
            have hb5 := spec_l1Bend.below_cells (base := 0) w.heap.size hB.size (((spec_l1Bend.ns a1).map (Value.int .u8)).drop (i + 1)) i w4.drew (below_drew1 hb4)
            have hK5 := spec_l1Bend.keep_cells (B := w.heap.size) (o := i) (keep_drew hK4) (Nat.le_refl _) (((spec_l1Bend.ns a1).map (Value.int .u8)).drop (i + 1))
            go_region_law (refine step_append_room rfl (.tmp 46) (.tmp 50) 22 rfl 5 i0 1 Tryd.underlying22 hi0 hz1 w.heap.size 0 i cap (by simp [Act.eval, Act.put]) A (a1.size - (i + 1)) (cap - (i + 1)) (((spec_l1Bend.ns a1).map (Value.int .u8)).drop (i + 1)) (by simp [Act.eval, Act.put]) s1.out hnews.out s2.out (by omega) s3.out ?_)
            go_wp2_with ((with_reducible refine gate_dst (N := 74) rfl ?_); refine Kd.event_run rfl (spec_l1Bend.back (B := w.heap.size) (cap := cap) (n := i + (a1.size - (i + 1))) rfl rfl hR5 (by rw [List.length_append, List.length_take, List.length_drop]; omega) Tryd.underlying22 Tryd.underlying9 Tryd.underlying5) ?_)
            go_ret
            exact ⟨rfl, hi5, hb5, hK5⟩
          · rw [if_neg hu] at h
            cases h
        · rw [if_neg hp] at h
          simp only [Option.some.injEq, Prod.mk.injEq] at h
          obtain ⟨rfl, rfl, rfl⟩ := h
          have dp : decide ((0 : Int) < (a1.size : Int)) = false := decide_eq_false (by omega)
          go_enter Tryd.func31, Tryd.ntmps31
          go_wp2_with (first
            | ((with_reducible refine gate_dst (N := 11) rfl ?_); refine Kd.event_run rfl (spec_l1Bend.conv a1 rfl rfl Tryd.underlying9 Tryd.underlying22 Tryd.underlying5) ?_)
            | ((with_reducible refine gate_dst (N := 13) rfl ?_); refine goesL_ (some 13) rfl rfl Tryd.func27 (by kernel_rfl) rfl #[.pointer (some ⟨g, 0, none⟩), .int .i64 8] rfl (by (try simp only [List.map_toArray, List.map_cons, List.map_nil]); first | done | rfl) ?_; (with_reducible refine (spec_l1Below.calls g s0_0 s0_1 s0_2 8 t1 t2 t3 w0 _ hI1 hB1 hT'.out).mono ?_); rintro e w3 ⟨rfl, hi3, hb3, hk3⟩; refine ⟨_, rfl, ?_⟩; have hR3 := hR1.keep hk3 (by omega) hgw; have hK3 := hK1.trans hk3 (.inl rfl))
            | ((with_reducible refine gate_dst (N := 74) rfl ?_); refine Kd.event_run rfl (spec_l1Bend.back (B := w.heap.size) (cap := grownCap w a1.size 0 5) (n := a1.size) rfl rfl hR3 (spec_l1Bend.ns_length a1) Tryd.underlying22 Tryd.underlying9 Tryd.underlying5) ?_))
          go_ret
          exact ⟨rfl, hi3, hb3, hK3⟩
      · by_cases h2 : t1 = 2
        · rw [if_neg h0, if_neg h1, if_pos h2] at h
          have d0 : decide (t1 = 0) = false := decide_eq_false h0
          have d1 : decide (t1 = 1) = false := decide_eq_false h1
          have d2 : decide (t1 = 2) = true := decide_eq_true h2
          obtain ⟨ys, hys⟩ : ∃ ys : List ByteArray, ys = [(⟨#[60]⟩ : ByteArray), (⟨#[62]⟩ : ByteArray), (⟨#[38]⟩ : ByteArray), (⟨#[34]⟩ : ByteArray), (⟨#[39]⟩ : ByteArray), (⟨#[47]⟩ : ByteArray), (⟨#[32]⟩ : ByteArray), (⟨#[61]⟩ : ByteArray), (⟨#[10]⟩ : ByteArray), (⟨#[93]⟩ : ByteArray), (⟨#[120]⟩ : ByteArray), (⟨#[255]⟩ : ByteArray), (⟨#[45]⟩ : ByteArray)] := ⟨_, rfl⟩
          rw [← hys] at h
          replace h := Option.bind_eq_some_iff.mp h
          obtain ⟨⟨u1, u2, u3⟩, hU, h⟩ := h
          dsimp only at h
          replace h := Option.bind_eq_some_iff.mp h
          obtain ⟨⟨x1, x2, x3⟩, hX, h⟩ := h
          dsimp only at h
          by_cases hu : 0 ≤ u1 ∧ u1 ≤ (a1.size : Int) ∧ x1.size ≤ 4096
          · rw [if_pos hu] at h
            obtain ⟨hu0, hu1, hxs⟩ := hu
            simp only [Option.some.injEq, Prod.mk.injEq] at h
            obtain ⟨rfl, rfl, rfl⟩ := h
            have hlen := spec_l1Bend.ns_length a1
            have hcap := hR1.le
            obtain ⟨i, rfl⟩ := Int.eq_ofNat_of_zero_le hu0
            simp only [Int.toNat_natCast]
            have hin : i ≤ a1.size := by omega
            have hU' := Aside0.mk hU
            have hX' := Aside0.mk hX
            clear hU hX
            obtain ⟨i0, hi0, hz0, hz1, hz2⟩ := info_parts (show (Tryd.prog.info? 5).map (fun i => (i.zero, i.size, i.bytes)) = some (some (.int .u8 0), 1, 1) by kernel_rfl)
            have hcm : grownCap w a1.size 0 5 ≤ 9223372036854775807 := by have := grownCap_le_maxLen w a1.size 0 5 (by simp only [maxLen]; omega); simpa [maxLen] using this
            obtain ⟨cap, hcape⟩ : ∃ c, grownCap w a1.size 0 5 = c := ⟨_, rfl⟩
            rw [hcape] at hcm hcap hR1
            have hwr : IntKind.i64.wrap ((a1.size : Int) + 1) = (a1.size : Int) + 1 := by rw [IntKind.wrap_i64]; omega
            go_enter Tryd.func31, Tryd.ntmps31
            go_wp2_with (first
            | ((with_reducible refine gate_dst (N := 11) rfl ?_); refine Kd.event_run rfl (spec_l1Bend.conv a1 rfl rfl Tryd.underlying9 Tryd.underlying22 Tryd.underlying5) ?_)
            | ((with_reducible refine gate_dst (N := 13) rfl ?_); refine goesL_ (some 13) rfl rfl Tryd.func27 (by kernel_rfl) rfl #[.pointer (some ⟨g, 0, none⟩), .int .i64 8] rfl (by (try simp only [List.map_toArray, List.map_cons, List.map_nil]); first | done | rfl) ?_; (with_reducible refine (spec_l1Below.calls g s0_0 s0_1 s0_2 8 t1 t2 t3 w0 _ hI1 hB1 hT'.out).mono ?_); rintro e w3 ⟨rfl, hi3, hb3, hk3⟩; refine ⟨_, rfl, ?_⟩; have hR3 := hR1.keep hk3 (by omega) hgw; have hK3 := hK1.trans hk3 (.inl rfl))
            | ((with_reducible refine gate_dst (N := 58) rfl ?_); refine goesL_ (some 58) rfl rfl Tryd.func27 (by kernel_rfl) rfl #[.pointer (some ⟨g, 0, none⟩), .int .i64 ((a1.size : Int) + 1)] rfl (by (try simp only [List.map_toArray, List.map_cons, List.map_nil]); first | done | rfl) ?_; (with_reducible refine (spec_l1Below.calls g s0_0 t2 t3 ((a1.size : Int) + 1) (i : Int) u2 u3 w0 _ hi3 hb3 hU'.out).mono ?_); rintro e w4 ⟨rfl, hi4, hb4, hk4⟩; refine ⟨_, rfl, ?_⟩; have hR4 := hR3.keep hk4 (by have := hk3.1; omega) hgw; have hK4 := hK3.trans hk4 (.inl rfl))
            | ((with_reducible refine gate_dst (N := 60) rfl ?_); refine Kd.R_lit Kd.string _ 9 ?hg (N := 60) ?hd (xs := [(⟨#[60]⟩ : ByteArray), (⟨#[62]⟩ : ByteArray), (⟨#[38]⟩ : ByteArray), (⟨#[34]⟩ : ByteArray), (⟨#[39]⟩ : ByteArray), (⟨#[47]⟩ : ByteArray), (⟨#[32]⟩ : ByteArray), (⟨#[61]⟩ : ByteArray), (⟨#[10]⟩ : ByteArray), (⟨#[93]⟩ : ByteArray), (⟨#[120]⟩ : ByteArray), (⟨#[255]⟩ : ByteArray), (⟨#[45]⟩ : ByteArray)]) (inner := [.string (⟨#[60]⟩ : ByteArray), .string (⟨#[62]⟩ : ByteArray), .string (⟨#[38]⟩ : ByteArray), .string (⟨#[34]⟩ : ByteArray), .string (⟨#[39]⟩ : ByteArray), .string (⟨#[47]⟩ : ByteArray), .string (⟨#[32]⟩ : ByteArray), .string (⟨#[61]⟩ : ByteArray), .string (⟨#[10]⟩ : ByteArray), .string (⟨#[93]⟩ : ByteArray), .string (⟨#[120]⟩ : ByteArray), .string (⟨#[255]⟩ : ByteArray), .string (⟨#[45]⟩ : ByteArray)]) (ok := fun _ => True) (okp := fun _ => True) ?hr ?hp (fun _ hk => hk) trivial (Below.refl _ _) (Nat.le_refl _) (by simp) ?_; (case hd => rfl); (case hg => rfl); (case hr => first | (go_simp; done) | (go_simp; rfl)); (case hp => exact (Reps.one (show Kd.M Kd.string _ _ _ (⟨#[60]⟩ : ByteArray) [.string (⟨#[60]⟩ : ByteArray)] from rfl) (Reps.one (show Kd.M Kd.string _ _ _ (⟨#[62]⟩ : ByteArray) [.string (⟨#[62]⟩ : ByteArray)] from rfl) (Reps.one (show Kd.M Kd.string _ _ _ (⟨#[38]⟩ : ByteArray) [.string (⟨#[38]⟩ : ByteArray)] from rfl) (Reps.one (show Kd.M Kd.string _ _ _ (⟨#[34]⟩ : ByteArray) [.string (⟨#[34]⟩ : ByteArray)] from rfl) (Reps.one (show Kd.M Kd.string _ _ _ (⟨#[39]⟩ : ByteArray) [.string (⟨#[39]⟩ : ByteArray)] from rfl) (Reps.one (show Kd.M Kd.string _ _ _ (⟨#[47]⟩ : ByteArray) [.string (⟨#[47]⟩ : ByteArray)] from rfl) (Reps.one (show Kd.M Kd.string _ _ _ (⟨#[32]⟩ : ByteArray) [.string (⟨#[32]⟩ : ByteArray)] from rfl) (Reps.one (show Kd.M Kd.string _ _ _ (⟨#[61]⟩ : ByteArray) [.string (⟨#[61]⟩ : ByteArray)] from rfl) (Reps.one (show Kd.M Kd.string _ _ _ (⟨#[10]⟩ : ByteArray) [.string (⟨#[10]⟩ : ByteArray)] from rfl) (Reps.one (show Kd.M Kd.string _ _ _ (⟨#[93]⟩ : ByteArray) [.string (⟨#[93]⟩ : ByteArray)] from rfl) (Reps.one (show Kd.M Kd.string _ _ _ (⟨#[120]⟩ : ByteArray) [.string (⟨#[120]⟩ : ByteArray)] from rfl) (Reps.one (show Kd.M Kd.string _ _ _ (⟨#[255]⟩ : ByteArray) [.string (⟨#[255]⟩ : ByteArray)] from rfl) (Reps.one (show Kd.M Kd.string _ _ _ (⟨#[45]⟩ : ByteArray) [.string (⟨#[45]⟩ : ByteArray)] from rfl) (Reps.none _ _))))))))))))))); intro v5 w5 ho5 hb5 hg5_ hnew5_; clear hg5_ hnew5_; rw [← hys] at ho5; have hR5 := spec_l1Bend.Row.block hR4 (hb5.block w.heap.size (by have := hk4.1; have := hk3.1; omega)); have hK5 := hK4.trans (KeepBut.of_below hb5 g none) (.inl rfl); have hi5 := hi4.below hb5; have hB5 := below_step hb4 hb5; obtain ⟨Ao5, co5, rfl⟩ := Kd.R_slice ho5)
            | ((with_reducible refine gate_callee (f := 36) rfl ?_); refine goesL_ (some 61) rfl rfl Tryd.func36 (by kernel_rfl) rfl #[.pointer (some ⟨g, 0, none⟩), .slice Ao5 ys.length co5] rfl (by (try simp only [List.map_toArray, List.map_cons, List.map_nil]); first | done | rfl) ?_; (with_reducible refine (spec_l1Str.calls g s0_0 u2 u3 _ _ ys x1 x2 x3 w0 _ hi5 hB5 (Kd.R_reads' ho5).2.2 (Kd.R_reads' ho5).2.1 (far_slice (IsS67.own_ne hi5 ho5 (by decide))) hX'.out).mono ?_); rintro e w6 ⟨rfl, hi6, hb6, hk6⟩; refine ⟨_, rfl, ?_⟩; have hR6 := hR5.keep hk6 (by have := hk4.1; have := hk3.1; have := hb5.size; omega) hgw; have hK6 := hK5.trans hk6 (.inl rfl)))
            have hlt : w.heap.size < w6.heap.size := by
              have := hk6.1; have := hb5.size; have := hk4.1; have := hk3.1; omega
            have hR6' : spec_l1Bend.Row (w6.alloc (.cells #[] 5)).drew w.heap.size cap (spec_l1Bend.ns a1) := spec_l1Bend.Row.block (W := w6) hR6 (heap_alloc_old w6 _ hlt)
            have hi6' := (hi6.alloc (.cells #[] 5)).drew
            have hb6' : Below w0.heap.size w0 (w6.alloc (.cells #[] 5)).drew := below_drew1 (below_alloc hb6 _)
            have hK6' : KeepBut w (w6.alloc (.cells #[] 5)).drew g none := keep_drew (keep_alloc hK6 _)
            have hsz6 : (w6.alloc (.cells #[] 5)).drew.heap.size = w6.heap.size + 1 := by simp
            have HO1 : Hid ((w6.alloc (.cells #[] 5)).drew.ownsRow w6.heap.size 5 1 (.slice (some ⟨w6.heap.size, 0, none⟩) 0 0) 0 []) :=
              ⟨rfl, .inr ⟨w6.heap.size, 0, #[], rfl, Nat.le_refl _, heap_alloc_new w6 _, Nat.le_refl _, Nat.zero_le _, rfl, rfl⟩⟩
            obtain ⟨S, hS⟩ : ∃ S, ((spec_l1Bend.ns a1).map (Value.int .u8)).take i = S := ⟨_, rfl⟩
            obtain ⟨T, hT⟩ : ∃ T, ((spec_l1Bend.ns a1).map (Value.int .u8)).drop i = T := ⟨_, rfl⟩
            have hn1 : Hid (S.length = i) := by
              show S.length = i
              rw [← hS, List.length_take, List.length_map]
              omega
            have hn3 : Hid (T.length = a1.size - i) := by
              show T.length = a1.size - i
              rw [← hT, List.length_drop, List.length_map]
              omega
            have h11 : Hid (∀ u ∈ S, u.oneCell' = true) := by
              intro u hu
              rw [← hS] at hu
              obtain ⟨x, _, rfl⟩ := List.mem_map.1 (List.mem_of_mem_take hu)
              rfl
            have h13 : Hid (∀ u ∈ T, u.oneCell' = true) := by
              intro u hu
              rw [← hT] at hu
              obtain ⟨x, _, rfl⟩ := List.mem_map.1 (List.mem_of_mem_drop hu)
              rfl
            have hc1 : Hid (∀ j u, S[j]? = some u → (w6.alloc (.cells #[] 5)).drew.cell? ((⟨w.heap.size, 0, none⟩ : Addr).add j) = some u) := by
              intro j u hu
              have hj : j < i := by
                have := (List.getElem?_eq_some_iff.1 hu).1
                rw [hn1.out] at this
                exact this
              rw [Addr.add_lit, Nat.zero_add, hR6'.cell j (by omega), ← hu, ← hS]
              simp [List.getD, List.getElem?_take, hj, show j < (spec_l1Bend.ns a1).length by omega]
            obtain ⟨A, hA, hnews⟩ : ∃ A : Addr, (if cap = i then some (⟨w.heap.size, 0, none⟩ : Addr) else some ⟨w.heap.size, i, none⟩) = some A ∧ Hid (∀ W : World, spec_l1Bend.Row W w.heap.size cap (spec_l1Bend.ns a1) → ∀ j u, T[j]? = some u → W.cell? (A.add j) = some u) := by
              by_cases hc : cap = i
              · refine ⟨⟨w.heap.size, 0, none⟩, by simp [hc], fun W hW j u hu => ?_⟩
                have h9 : T = [] := List.eq_nil_of_length_eq_zero (by rw [hn3.out]; omega)
                rw [h9] at hu
                simp at hu
              · refine ⟨⟨w.heap.size, i, none⟩, by simp [hc], fun W hW j u hu => ?_⟩
                have hj : j < a1.size - i := by
                  have := (List.getElem?_eq_some_iff.1 hu).1
                  rw [hn3.out] at this
                  exact this
                rw [Addr.add_lit]
                refine (hW.cell (i + j) (by omega)).trans ?_
                rw [← hu, ← hT]
                simp [List.getD, show i + j < (spec_l1Bend.ns a1).length by omega]
            have hic : i ≤ cap := by omega
            have hTot : Hid (S.length = i ∧ i ≤ 4096 ∧ a1.size ≤ 4096 ∧ x1.size ≤ 4096) := ⟨hn1.out, by omega, hsz, hxs⟩
            have hgl := hi6.lt
            go_region_law (first
              | (refine spec_l1Bend.own_step w6.heap.size rfl (.tmp 62) (.tmp 65) 22 rfl i0 Tryd.underlying22 hi0 hz0 hz1 hz2 (.slice (some ⟨w6.heap.size, 0, none⟩) 0 0) 0 [] (by simp [Act.eval, Act.put]) HO1.out ⟨w.heap.size, 0, none⟩ i cap S (by simp [Act.eval, Act.put]) hn1.out hc1.out h11.out (by omega) (by rw [hsz6]; omega) ?_; intro v7 w7 ho7 hg7; have hs7 := hg7.size; rw [hsz6] at hs7; have hR7 := hR6'.grown hg7 (by rw [hsz6]; omega) (by simp [Value.ownBlock]; omega); have hi7 := hi6'.grown hg7 (by simp [Value.ownBlock]; omega); have hb7 := hb6'.grown hg7 (by rw [hsz6]; have := hB.size; omega) (fun k hk => Nat.le_trans (by have := hB.size; omega) (own_base HO1.out k hk)); have hK7 := hK6'.trans (KeepBut.of_grown hg7 g) (.inr ⟨w6.heap.size, rfl, by omega⟩))
              | (refine spec_l1Bend.str_step w6.heap.size rfl (.tmp 66) (.tmp 67) 22 9 rfl i0 Tryd.underlying22 Tryd.underlying9 hi0 hz0 hz1 hz2 v7 (0 + i) ([] ++ S) (by simp [Act.eval, Act.put]) ho7 x1 (by simp [Act.eval, Act.put]) (by omega) (by omega) ?_; intro v8 w8 ho8 hg8; have hs8 := hg8.size; have hR8 := hR7.grown hg8 (by omega) (fun e => by have := own_base ho7 _ e.symm; omega); have hi8 := hi7.grown hg8 (fun e => by have := own_base ho7 _ e.symm; omega); have hb8 := hb7.grown hg8 (by have := hB.size; omega) (fun k hk => Nat.le_trans (by have := hB.size; omega) (own_base ho7 k hk)); have hK8 := hK7.trans (KeepBut.of_grown hg8 g) ((own_base' ho7).imp id (fun ⟨b, e, hle⟩ => ⟨b, e, by omega⟩)))
              | (refine spec_l1Bend.own_step w6.heap.size rfl (.tmp 68) (.tmp 71) 22 rfl i0 Tryd.underlying22 hi0 hz0 hz1 hz2 v8 (0 + i + x1.size) ([] ++ S ++ Go.Lib.strCells x1) (by simp [Act.eval, Act.put]) ho8 A (a1.size - i) (cap - i) T (by simp [Act.eval, Act.put]) hn3.out (hnews.out _ hR8) h13.out (by omega) (by omega) ?_; intro v9 w9 ho9 hg9; have hs9 := hg9.size; have hR9 := hR8.grown hg9 (by omega) (fun e => by have := own_base ho8 _ e.symm; omega); have hi9 := hi8.grown hg9 (fun e => by have := own_base ho8 _ e.symm; omega); have hb9 := hb8.grown hg9 (by have := hB.size; omega) (fun k hk => Nat.le_trans (by have := hB.size; omega) (own_base ho8 k hk)); have hK9 := hK8.trans (KeepBut.of_grown hg9 g) ((own_base' ho8).imp id (fun ⟨b, e, hle⟩ => ⟨b, e, by omega⟩))))
            have e9 : [] ++ S ++ Go.Lib.strCells x1 ++ T = ((spec_l1Bend.ns a1).take i ++ (spec_l1Bend.ns x1 ++ (spec_l1Bend.ns a1).drop i)).map (Value.int .u8) := by
              rw [← hS, ← hT]
              simp [Go.Lib.strCells, spec_l1Bend.ns, List.map_take, List.map_drop]
            rw [e9] at ho9
            go_wp2_with ((with_reducible refine gate_dst (N := 74) rfl ?_); refine Kd.event_run rfl (spec_l1Bend.own_back rfl rfl ho9 Tryd.underlying22 Tryd.underlying9 Tryd.underlying5) ?_)
            go_ret
            exact ⟨rfl, hi9, hb9, hK9⟩
          · rw [if_neg hu] at h
            cases h
        · rw [if_neg h0, if_neg h1, if_neg h2] at h
          simp only [Option.some.injEq, Prod.mk.injEq] at h
          obtain ⟨rfl, rfl, rfl⟩ := h
          have d0 : decide (t1 = 0) = false := decide_eq_false h0
          have d1 : decide (t1 = 1) = false := decide_eq_false h1
          have d2 : decide (t1 = 2) = false := decide_eq_false h2
          go_enter Tryd.func31, Tryd.ntmps31
          go_wp2_with (first
            | ((with_reducible refine gate_dst (N := 11) rfl ?_); refine Kd.event_run rfl (spec_l1Bend.conv a1 rfl rfl Tryd.underlying9 Tryd.underlying22 Tryd.underlying5) ?_)
            | ((with_reducible refine gate_dst (N := 13) rfl ?_); refine goesL_ (some 13) rfl rfl Tryd.func27 (by kernel_rfl) rfl #[.pointer (some ⟨g, 0, none⟩), .int .i64 8] rfl (by (try simp only [List.map_toArray, List.map_cons, List.map_nil]); first | done | rfl) ?_; (with_reducible refine (spec_l1Below.calls g s0_0 s0_1 s0_2 8 t1 t2 t3 w0 _ hI1 hB1 hT'.out).mono ?_); rintro e w3 ⟨rfl, hi, hb, hk⟩; refine ⟨_, rfl, ?_⟩; have hR3 := hR1.keep hk (by omega) hgw; have hK3 := hK1.trans hk (.inl rfl))
            | ((with_reducible refine gate_dst (N := 74) rfl ?_); refine Kd.event_run rfl (spec_l1Bend.back (B := w.heap.size) (cap := grownCap w a1.size 0 5) (n := a1.size) rfl rfl hR3 (spec_l1Bend.ns_length a1) Tryd.underlying22 Tryd.underlying9 Tryd.underlying5) ?_))
          go_ret
          exact ⟨rfl, hi, hb, hK3⟩
  · rw [if_neg hsz] at h
    cases h

/-! ### spec_DrawSignAt: function 9 -/
def spec_DrawSignAt.f (k : Nat) (l0 : List Int) : Option (ByteArray × Int) := (spec_l1New.f k l0).bind fun bt168 => ((spec_l1Text.f k bt168.1 bt168.2.1 bt168.2.2).bind fun bt172 => ((spec_l1Bend.f bt168.1 bt172.2.1 bt172.2.2 bt172.1).bind fun bt175 => ((spec_l1Below.f bt168.1 bt175.2.1 bt175.2.2 5).bind fun bt178 => (some (bt175.1, wrap64 (bt178.1 - 1))))))
set_option maxHeartbeats 8000000 in
set_option maxRecDepth 100000 in
theorem spec_DrawSignAt.calls (k : Nat) (A0 : Option Addr) (c0 : Nat) (l0 : List Int) (r1 : ByteArray) (r2 : Int) (w : World) (hr0 : Kd.C (Kd.int .u8) w A0 l0.length l0) (hc0 : l0.length ≤ c0) (h : spec_DrawSignAt.f k l0 = some (r1, r2)) :
  Calls Tryd.prog 9 #[.slice A0 l0.length c0] w fun e w' => e = .returned (.tuple #[.string r1, .int .i64 r2]) ∧ Below w.heap.size w w' := by
 have HR0 := Aside0.mk hr0
 have HC0 := Aside0.mk hc0
 clear hr0 hc0
 have HB := Aside0.mk (Below.refl w.heap.size w)
 have H : ((spec_l1New.f k l0).bind fun bt168 => ((spec_l1Text.f k bt168.1 bt168.2.1 bt168.2.2).bind fun bt172 => ((spec_l1Bend.f bt168.1 bt172.2.1 bt172.2.2 bt172.1).bind fun bt175 => ((spec_l1Below.f bt168.1 bt175.2.1 bt175.2.2 5).bind fun bt178 => (some (bt175.1, wrap64 (bt178.1 - 1))))))) = some (r1, r2) := h
 clear h
 replace H := Option.bind_eq_some_iff.mp H
 obtain ⟨⟨t168, t169, t170⟩, A20, H⟩ := H
 replace H : ((spec_l1Text.f k t168 t169 t170).bind fun bt172 => ((spec_l1Bend.f t168 bt172.2.1 bt172.2.2 bt172.1).bind fun bt175 => ((spec_l1Below.f t168 bt175.2.1 bt175.2.2 5).bind fun bt178 => (some (bt175.1, wrap64 (bt178.1 - 1)))))) = some (r1, r2) := H
 have A2 := Aside0.mk A20
 clear A20
 replace H := Option.bind_eq_some_iff.mp H
 obtain ⟨⟨t172, t173, t174⟩, A30, H⟩ := H
 replace H : ((spec_l1Bend.f t168 t173 t174 t172).bind fun bt175 => ((spec_l1Below.f t168 bt175.2.1 bt175.2.2 5).bind fun bt178 => (some (bt175.1, wrap64 (bt178.1 - 1))))) = some (r1, r2) := H
 have A3 := Aside0.mk A30
 clear A30
 replace H := Option.bind_eq_some_iff.mp H
 obtain ⟨⟨t175, t176, t177⟩, A40, H⟩ := H
 replace H : ((spec_l1Below.f t168 t176 t177 5).bind fun bt178 => (some (t175, wrap64 (bt178.1 - 1)))) = some (r1, r2) := H
 have A4 := Aside0.mk A40
 clear A40
 replace H := Option.bind_eq_some_iff.mp H
 obtain ⟨⟨t178, t179, t180⟩, A50, H⟩ := H
 replace H : (some (t175, wrap64 (t178 - 1))) = some (r1, r2) := H
 have A5 := Aside0.mk A50
 clear A50
 simp only [Option.some.injEq, Prod.mk.injEq] at H
 obtain ⟨rfl, rfl⟩ := H
 go_enter Tryd.func9, Tryd.ntmps9
 go_wp2_with (first | ((with_reducible refine gate_callee (f := 24) rfl ?_); refine goesL_ (some 7) rfl rfl Tryd.func24 (by kernel_rfl) rfl #[.slice A0 l0.length c0] rfl (by (try simp only [List.map_toArray, List.map_cons, List.map_nil]); first | done | rfl | (simp only [List.length_drop, List.length_take]; rfl)) ?_; (with_reducible refine (spec_l1New.calls k _ _ l0 t168 t169 t170 w _ ?side1 ?side2 ?side3 A2.out).mono ?_); (case side1 => repeat (first|(with_reducible first|exact HB.out|apply zA|apply zN|apply zD) | exact HB.out)); (case side2 => exact HR0.out); (case side3 => exact HC0.out); rintro e w6 ⟨g171, rfl, hi, hb, hb2⟩; refine ⟨_, rfl, ?_⟩; have n0_ := Aside0.mk (hb); have n1_ := Aside0.mk (hi); clear HB; have HB := n0_; have HI171 := n1_; clear n0_ n1_; (try clear hb); (try clear hb2); (try clear hk); (try clear hi)) | ((with_reducible refine gate_callee (f := 30) rfl ?_); refine goesL_ (some 9) rfl rfl Tryd.func30 (by kernel_rfl) rfl #[.pointer (some ⟨g171, 0, none⟩)] rfl (by (try simp only [List.map_toArray, List.map_cons, List.map_nil]); first | done | rfl | (simp only [List.length_drop, List.length_take]; rfl)) ?_; (with_reducible refine (spec_l1Text.calls k g171 t168 t169 t170 t172 t173 t174 w _ ?side1 ?side2 A3.out).mono ?_); (case side1 => repeat (first|(with_reducible first|exact HI171.out | apply IsS67.alloc | apply IsS67.drewN | apply IsS67.drew | apply IsS67.set_1 | apply IsS67.set_2) | exact HI171.out)); (case side2 => repeat (first|(with_reducible first|exact HB.out|apply zA|apply zN|apply zD | refine below_set ?_ (IsS67.ge HI171.out)) | exact HB.out)); rintro e w7 ⟨rfl, hi, hb, hk⟩; refine ⟨_, rfl, ?_⟩; have n0_ := Aside0.mk (hb); have n1_ := Aside0.mk (hi); clear HB; clear HI171; have HB := n0_; have HI171 := n1_; clear n0_ n1_; (try clear hb); (try clear hb2); (try clear hk); (try clear hi)) | ((with_reducible refine gate_callee (f := 31) rfl ?_); refine goesL_ (some 12) rfl rfl Tryd.func31 (by kernel_rfl) rfl #[.pointer (some ⟨g171, 0, none⟩), .string t172] rfl (by (try simp only [List.map_toArray, List.map_cons, List.map_nil]); first | done | rfl | (simp only [List.length_drop, List.length_take]; rfl)) ?_; (with_reducible refine (spec_l1Bend.calls g171 t168 t173 t174 t172 t175 t176 t177 w _ ?side1 ?side2 A4.out).mono ?_); (case side1 => repeat (first|(with_reducible first|exact HI171.out | apply IsS67.alloc | apply IsS67.drewN | apply IsS67.drew | apply IsS67.set_1 | apply IsS67.set_2) | exact HI171.out)); (case side2 => repeat (first|(with_reducible first|exact HB.out|apply zA|apply zN|apply zD | refine below_set ?_ (IsS67.ge HI171.out)) | exact HB.out)); rintro e w8 ⟨rfl, hi, hb, hk⟩; refine ⟨_, rfl, ?_⟩; have n0_ := Aside0.mk (hb); have n1_ := Aside0.mk (hi); clear HB; clear HI171; have HB := n0_; have HI171 := n1_; clear n0_ n1_; (try clear hb); (try clear hb2); (try clear hk); (try clear hi)) | ((with_reducible refine gate_callee (f := 27) rfl ?_); refine goesL_ (some 14) rfl rfl Tryd.func27 (by kernel_rfl) rfl #[.pointer (some ⟨g171, 0, none⟩), .int .i64 5] rfl (by (try simp only [List.map_toArray, List.map_cons, List.map_nil]); first | done | rfl | (simp only [List.length_drop, List.length_take]; rfl)) ?_; (with_reducible refine (spec_l1Below.calls g171 t168 t176 t177 5 t178 t179 t180 w _ ?side1 ?side2 A5.out).mono ?_); (case side1 => repeat (first|(with_reducible first|exact HI171.out | apply IsS67.alloc | apply IsS67.drewN | apply IsS67.drew | apply IsS67.set_1 | apply IsS67.set_2) | exact HI171.out)); (case side2 => repeat (first|(with_reducible first|exact HB.out|apply zA|apply zN|apply zD | refine below_set ?_ (IsS67.ge HI171.out)) | exact HB.out)); rintro e w9 ⟨rfl, hi, hb, hk⟩; refine ⟨_, rfl, ?_⟩; have n0_ := Aside0.mk (hb); have n1_ := Aside0.mk (hi); clear HB; clear HI171; have HB := n0_; have HI171 := n1_; clear n0_ n1_; (try clear hb); (try clear hb2); (try clear hk); (try clear hi)))
 go_ret2
 exact ⟨by first | rfl | (simp [errW_none, errW_some] <;> rfl) | (simp [*, errW_none, errW_some] <;> rfl), by repeat (first|(with_reducible first|exact HB.out|apply zA|apply zN|apply zD | refine below_set ?_ (IsS67.ge HI171.out)) | exact HB.out)⟩

/-! ### spec_l1In: function 32 -/
def spec_l1In.f (a0 : Int) (a1 : Int) (a2 : Int) : Option (Bool) := if a0 ≥ a1 then (some (decide (a0 ≤ a2))) else (some false)
set_option maxHeartbeats 8000000 in
set_option maxRecDepth 100000 in
theorem spec_l1In.calls (a0 : Int) (a1 : Int) (a2 : Int) (r : Bool) (w : World) (h : spec_l1In.f a0 a1 a2 = some r) :
  Calls Tryd.prog 32 #[.int .i64 a0, .int .i64 a1, .int .i64 a2] w fun e w' => e = .returned (.bool r) ∧ Drawn0 w w' := by
 have H : (if a0 ≥ a1 then (some (decide (a0 ≤ a2))) else (some false)) = some r := h
 clear h
 by_cases c4 : a0 ≥ a1
 ·rw [if_pos c4] at H
  have c4b0 : decide (a1 ≤ a0) = true := decide_eq_true c4
  clear c4
  obtain rfl := Option.some.inj H
  go_enter Tryd.func32, Tryd.ntmps32
  go_wp2
  go_ret
  exact ⟨by first | rfl | (simp; done) | (simp [*]; done), by repeat (first | exact Drawn0.refl _ | apply Drawn0.step)⟩
 ·rw [if_neg c4] at H
  have c4b0 : decide (a1 ≤ a0) = false := decide_eq_false c4
  clear c4
  obtain rfl := Option.some.inj H
  go_enter Tryd.func32, Tryd.ntmps32
  go_wp2
  go_ret
  exact ⟨by first | rfl | (simp; done) | (simp [*]; done), by repeat (first | exact Drawn0.refl _ | apply Drawn0.step)⟩

end Go.Proofs.YtehlkajccnmddaaDoor.PG
