-- Written by the session's program hprint.py, over the kit's print program. Lean checks it.
import Derived.Test.YtlfjdaoibjjakaaGreatDoorPTx0
import Derived.Test.YtlfjdaoibjjakaaGreatDoorPTx10
import Derived.Test.YtlfjdaoibjjakaaGreatDoorPTx14
namespace Go.Proofs.YtlfjdaoibjjakaaGreatDoor.PT
open Go.RowKit Go.Proofs.YtlfjdaoibjjakaaGreatDoorW.PrintWords Go.Proofs.YtlfjdaoibjjakaaGreatDoorW.PrintLast Go.Proofs.YtlfjdaoibjjakaaGreatDoorW.PrintMore
attribute [local go_sem] max2_int min2_int max_two min_two max_three min_three max_four min_four   -- for this text's walks alone
set_option linter.unusedVariables false
set_option linter.unusedSimpArgs false
set_option maxHeartbeats 8000000
set_option maxRecDepth 100000

/-! ### impl_SpaceOf: function 59 -/
def impl_SpaceOf.enc (l0 : List S80) (i : Nat) : Array Value := #[.int .i64 (i : Int), .agg #[.string (rd_T80 l0 (i : Int)).f0, .string (rd_T80 l0 (i : Int)).f1]]
/-- What has come when k rounds are over: the last places, from the end. -/
def impl_SpaceOf.came (n k : Nat) : List Nat := (List.range k).map fun t => n - 1 - t
theorem impl_SpaceOf.came_succ (n k : Nat) : impl_SpaceOf.came n (k + 1) = impl_SpaceOf.came n k ++ [n - 1 - k] := by simp [impl_SpaceOf.came, List.range_succ]
theorem impl_SpaceOf.came_length (n k : Nat) : (impl_SpaceOf.came n k).length = k := by simp [impl_SpaceOf.came]
section
attribute [local go_sem] Oper.semAt_some
set_option maxRecDepth 100000 in
set_option maxHeartbeats 4000000 in
theorem impl_SpaceOf.back1_in (F : Fence) (n : Nat) (hf : F.fn 137) (hro : F.round = none) (hn : 1 ≤ n) (l Bs : Nat) (w0 : World) (A0 : Option Addr) (c0 : Nat) (l0 : List S80)
    (hr : Kd.C k80 w0 A0 l0.length l0) (hl0 : l0.length ≤ 9223372036854775807) (J Jx : List Nat → World → Prop)
    (hY : ∀ pre x W, J pre W → pre.length < l0.length → YieldAt F (n - 1) Tryz.prog l (impl_SpaceOf.enc l0 x) W fun e W' =>
      (e = .returned (.bool true) ∧ J (pre ++ [x]) W' ∧ Below w0.heap.size W W') ∨ (e = .returned (.bool false) ∧ Jx (pre ++ [x]) W'))
    (hBs : w0.cell? ⟨Bs, 0, none⟩ = some (.slice A0 l0.length c0)) (W : World) (hW : Below w0.heap.size w0 W) (h0 : J [] W) :
    CallsIn F n Tryz.prog 137 #[.func (.yield l) #[] #[], .pointer (some ⟨Bs, 0, none⟩)] W fun e W' => (∃ v, e = .returned v) ∧
      ((∃ ys, ys = impl_SpaceOf.came l0.length l0.length ∧ J ys W') ∨ (∃ pre, (∃ k, k ≤ l0.length ∧ pre = impl_SpaceOf.came l0.length k) ∧ Jx pre W')) := by
  have hu := Tryz.underlying80
  have HR := Aside0.mk hr
  have HBs := Aside0.mk hBs
  have hcB : W.cell? ⟨Bs, 0, none⟩ = some (.slice A0 l0.length c0) := (hW.cell (p := ⟨Bs, 0, none⟩) (World.block_lt_of_cell? w0 _ hBs)).trans hBs
  clear hr hBs
  have e0 : wrap64 ((l0.length : Int) - 1) = (l0.length : Int) - 1 := by unfold wrap64; omega
  refine callsIn_of_wp Tryz.func137 rfl hf ?_ hro
  simp only [Tryz.ntmps137, List.size_toArray, List.length_cons, List.length_nil, Nat.reduceAdd, Nat.reduceSub, Array.replicate_succ, Array.replicate_zero, List.push_toArray, List.append_toArray, List.nil_append, List.cons_append]
  gi_wp2
  gi_loopw [3] (fun i wr => ∃ k : Nat, k ≤ l0.length ∧ i = .int .i64 ((l0.length : Int) - 1 - k) ∧ J (impl_SpaceOf.came l0.length k) wr ∧ Below w0.heap.size w0 wr)
    (fun i _ => (intOf i + 1).toNat)
  case atStart => exact ⟨0, Nat.zero_le _, by simp [e0], h0, hW⟩
  case round =>
    obtain ⟨k, hk, rfl, hJs, hnx⟩ := hrel
    have hcB' : wr.cell? ⟨Bs, 0, none⟩ = some (.slice A0 l0.length c0) := (hnx.cell (p := ⟨Bs, 0, none⟩) (World.block_lt_of_cell? w0 _ HBs.out)).trans HBs.out
    clear hcB
    by_cases hlt : k < l0.length
    · obtain ⟨fn, tmps, assign, body, hy, hR⟩ := hY _ (l0.length - 1 - k) wr hJs (by rw [impl_SpaceOf.came_length]; exact hlt)
      have ei : (l0.length : Int) - 1 - k = ((l0.length - 1 - k : Nat) : Int) := by omega
      unfold impl_SpaceOf.enc at hy
      rw [ei]
      obtain ⟨ad, ead, z0, z1⟩ := at_T80 (Kd.C_below HR.out hnx) ((l0.length - 1 - k : Nat) : Int) (by omega) (by omega)
      simp only [Int.toNat_natCast] at z0 z1
      cases ead
      have hgz : ¬ ((l0.length - 1 - k : Nat) : Int) < 0 := by omega
      have hltz : ((l0.length - 1 - k : Nat) : Int) < (l0.length : Int) := by omega
      have hge : (0 : Int) ≤ ((l0.length - 1 - k : Nat) : Int) := by omega
      have edec : wrap64 (((l0.length - 1 - k : Nat) : Int) - 1) = (l0.length : Int) - 1 - ((k + 1 : Nat) : Int) := by unfold wrap64; omega
      generalize hd : rd_T80 l0 ((l0.length - 1 - k : Nat) : Int) = d at hy z0 z1
      have HD := Aside0.mk hd
      clear hd
      gi_wp2
      refine hR.mono ?_
      rintro e W3 (⟨rfl, hJ3, hk3⟩ | ⟨rfl, hJx3⟩)
      · gi_wp2
        go_roundw
        case rel => exact ⟨k + 1, by omega, congrArg (Value.int IntKind.i64) (by omega), by rw [impl_SpaceOf.came_succ]; exact hJ3, hnx.trans hk3⟩
        case measure => simp [intOf]; try omega
      · gi_wp2
        refine bodyPost_ret (results_none rfl _ _ _) rfl ?_
        exact ⟨⟨_, rfl⟩, .inr ⟨_, ⟨k + 1, by omega, (impl_SpaceOf.came_succ _ _).symm⟩, hJx3⟩⟩
    · obtain rfl : k = l0.length := by omega
      have hgz : (l0.length : Int) - 1 - l0.length < 0 := by omega
      gi_wp2
      go_end0
      exact ⟨⟨_, rfl⟩, .inl ⟨_, rfl, hJs⟩⟩
set_option maxHeartbeats 1000000 in
theorem impl_SpaceOf.back_in (F : Fence) (n : Nat) (hf : F.fn 98) (hro : F.round = none) (a : Option Addr) (len cap : Nat) (w : World) :
    CallsIn F n Tryz.prog 98 #[.slice a len cap] w fun e w' => e = .returned (.func (.func 137) #[] #[.pointer (some ⟨w.heap.size, 0, none⟩)]) ∧ w' = w.alloc (.cells #[.slice a len cap] 29) := by
  refine callsIn_of_wp Tryz.func98 rfl hf ?_ hro
  simp only [Tryz.ntmps98, List.size_toArray, List.length_cons, List.length_nil, Nat.reduceAdd, Nat.reduceSub, Array.replicate_succ, Array.replicate_zero, List.push_toArray, List.append_toArray, List.nil_append, List.cons_append]
  gi_wp2
  go_ret
  exact ⟨rfl, rfl⟩
theorem impl_SpaceOf.back_stops (F : Fence) (n : Nat) (hf : F.fn 137) (hro : F.round = none) (hn : 1 ≤ n) (Bs : Nat) (w0 : World) (A0 : Option Addr) (c0 : Nat) (l0 : List S80)
    (hr : Kd.C k80 w0 A0 l0.length l0) (hl0 : l0.length ≤ 9223372036854775807) (hBs : w0.cell? ⟨Bs, 0, none⟩ = some (.slice A0 l0.length c0)) :
    SeqStopsK F n Tryz.prog 137 #[.pointer (some ⟨Bs, 0, none⟩)] (impl_SpaceOf.enc l0) (Below w0.heap.size) (fun ys => ys = impl_SpaceOf.came l0.length l0.length) (fun pre => ∃ k, k ≤ l0.length ∧ pre = impl_SpaceOf.came l0.length k) l0.length w0 :=
  fun l J Jx W hW _ _ hY h0 => impl_SpaceOf.back1_in F n hf hro hn l Bs w0 A0 c0 l0 hr hl0 J Jx hY hBs W hW h0
/-- A struct's block. -/
def impl_SpaceOf.Two (W : World) (B : Nat) (a b : Value) : Prop := W.heap[B]? = some (.cells #[a, b] 80 (0, 0))
theorem impl_SpaceOf.Two.cells {W : World} {B : Nat} {a b : Value} (h : impl_SpaceOf.Two W B a b) : W.cell? ⟨B, 0, none⟩ = some a ∧ W.cell? ⟨B, 1, none⟩ = some b := ⟨by simp [World.cell?, show W.heap[B]? = _ from h], by simp [World.cell?, show W.heap[B]? = _ from h]⟩
theorem impl_SpaceOf.Two.kept {W W' : World} {row : Option Nat} {B : Nat} {a b : Value} (h : impl_SpaceOf.Two W B a b) (hg : W.grownBy W' row) (hne : some B ≠ row) : impl_SpaceOf.Two W' B a b := (hg.block B (Array.getElem?_eq_some_iff.1 h).1 hne).trans h
def impl_SpaceOf.f (l0 : List S80) (a1 : ByteArray) : Option (ByteArray × Bool) :=
  match l0.reverse.find? (fun d => d.f0.toList == a1.toList) with
  | some d => some (d.f1, true)
  | none => some (⟨#[]⟩, a1.toList == [])
theorem impl_SpaceOf.rd_in (l0 : List S80) (i : Nat) (h : i < l0.length) : rd_T80 l0 (i : Int) = l0[i] := by simp [rd_T80, List.getD_eq_getElem?_getD, List.getElem?_eq_getElem h]
theorem impl_SpaceOf.f_hit (l0 : List S80) (a1 : ByteArray) (k : Nat) (pre : List Nat) (x : Nat) (h : pre ++ [x] = impl_SpaceOf.came l0.length k) (hk : k ≤ l0.length) (hno : ∀ y ∈ pre, ¬ (rd_T80 l0 ((y : Nat) : Int)).f0.toList = a1.toList) (he : (rd_T80 l0 ((x : Nat) : Int)).f0.toList = a1.toList) :
    impl_SpaceOf.f l0 a1 = some ((rd_T80 l0 ((x : Nat) : Int)).f1, true) := by
  cases k with
  | zero => simp [impl_SpaceOf.came] at h
  | succ m =>
    rw [impl_SpaceOf.came_succ] at h
    obtain ⟨h1, h2⟩ := List.append_inj' h rfl
    obtain rfl : x = l0.length - 1 - m := by simpa using h2
    subst h1
    have hf : l0.reverse.find? (fun d => d.f0.toList == a1.toList) = some (rd_T80 l0 ((l0.length - 1 - m : Nat) : Int)) := by
      refine List.find?_eq_some_iff_getElem.2 ⟨by simpa using he, m, by simp; omega, ?_, fun j hj => ?_⟩
      · rw [List.getElem_reverse, impl_SpaceOf.rd_in l0 _ (by omega)]
      · rw [List.getElem_reverse, ← impl_SpaceOf.rd_in l0 _ (by omega)]
        have := hno (l0.length - 1 - j) (by unfold impl_SpaceOf.came; exact List.mem_map.2 ⟨j, by simpa using hj, rfl⟩)
        simpa using this
    unfold impl_SpaceOf.f
    rw [hf]
theorem impl_SpaceOf.f_miss (l0 : List S80) (a1 : ByteArray) (hno : ∀ y ∈ impl_SpaceOf.came l0.length l0.length, ¬ (rd_T80 l0 ((y : Nat) : Int)).f0.toList = a1.toList) :
    impl_SpaceOf.f l0 a1 = some (⟨#[]⟩, a1.toList.isEmpty) := by
  have hf : l0.reverse.find? (fun d => d.f0.toList == a1.toList) = none := by
    refine List.find?_eq_none.2 (fun d hd => ?_)
    obtain ⟨i, hi, rfl⟩ := List.getElem_of_mem (List.mem_reverse.1 hd)
    have := hno i (by unfold impl_SpaceOf.came; exact List.mem_map.2 ⟨l0.length - 1 - i, by simp; omega, by omega⟩)
    rw [impl_SpaceOf.rd_in l0 i hi] at this
    simpa using this
  unfold impl_SpaceOf.f
  rw [hf]
  cases a1.toList <;> rfl
set_option maxRecDepth 100000 in
set_option maxHeartbeats 4000000 in
theorem impl_SpaceOf.in_ (F : Fence) (n : Nat) (hf : F.fn 59) (hf1 : F.fn 98) (hf2 : F.fn 137) (hro : F.round = none) (hn : 6 ≤ n) (A0 : Option Addr) (c0 : Nat) (l0 : List S80) (a1 : ByteArray) (w : World) (hr : Kd.C k80 w A0 l0.length l0) :
    CallsIn F n Tryz.prog 59 #[.slice A0 l0.length c0, .string a1] w fun e W' => (∃ r1 r2, impl_SpaceOf.f l0 a1 = some (r1, r2) ∧ e = .returned (.tuple #[.string r1, .bool r2])) ∧ Below w.heap.size w W' := by
  have h1 : 1 ≤ n := by omega
  refine callsIn_of_wp_marks Tryz.func59 rfl hf ?_ hro
  simp only [Tryz.ntmps59, List.size_toArray, List.length_cons, List.length_nil, Nat.reduceAdd, Nat.reduceSub, Array.replicate_succ, Array.replicate_zero, List.push_toArray, List.append_toArray, List.nil_append, List.cons_append]
  gi_wp2_with (gi_at_call 98; refine (impl_SpaceOf.back_in F (n - 1) hf1 hro _ _ _ _).mono ?_; rintro e w' ⟨rfl, rfl⟩)
  have bP := ((Boxed.new w 9 (.string a1)).alloc (.cells #[.string (⟨#[]⟩ : ByteArray)] 9)).alloc (.cells #[.bool false] 4) |>.alloc (.cells #[.slice A0 l0.length c0] 29)
  have bR := ((Boxed.new (w.alloc (.cells #[.string a1] 9)) 9 (.string (⟨#[]⟩ : ByteArray))).alloc (.cells #[.bool false] 4)).alloc (.cells #[.slice A0 l0.length c0] 29)
  have bK := (Boxed.new ((w.alloc (.cells #[.string a1] 9)).alloc (.cells #[.string (⟨#[]⟩ : ByteArray)] 9)) 4 (.bool false)).alloc (.cells #[.slice A0 l0.length c0] 29)
  have bS := Boxed.new (((w.alloc (.cells #[.string a1] 9)).alloc (.cells #[.string (⟨#[]⟩ : ByteArray)] 9)).alloc (.cells #[.bool false] 4)) 29 (.slice A0 l0.length c0)
  simp only [World.size_alloc] at bR bK bS
  have hB0 : Below w.heap.size w ((((w.alloc (.cells #[.string a1] 9)).alloc (.cells #[.string (⟨#[]⟩ : ByteArray)] 9)).alloc (.cells #[.bool false] 4)).alloc (.cells #[.slice A0 l0.length c0] 29)) := below_alloc (below_alloc (below_alloc (below_alloc (Below.refl _ w) _) _) _) _
  have hsz : ((((w.alloc (.cells #[.string a1] 9)).alloc (.cells #[.string (⟨#[]⟩ : ByteArray)] 9)).alloc (.cells #[.bool false] 4)).alloc (.cells #[.slice A0 l0.length c0] 29)).heap.size = w.heap.size + 4 := by simp
  obtain ⟨W0, hW0⟩ : ∃ W0, ((((w.alloc (.cells #[.string a1] 9)).alloc (.cells #[.string (⟨#[]⟩ : ByteArray)] 9)).alloc (.cells #[.bool false] 4)).alloc (.cells #[.slice A0 l0.length c0] 29)) = W0 := ⟨_, rfl⟩
  rw [hW0] at bP bR bK bS hB0 hsz ⊢
  clear hW0
  have hr0 := Kd.C_below hr hB0
  refine wpIn_rangeFunc_ownH hro h1 (gf := 137) (lb := #[.pointer (some ⟨w.heap.size + 1 + 1 + 1, 0, none⟩)]) rfl hf2 (enters_of Tryz.func137 (by kernel_rfl) rfl)
    (impl_SpaceOf.back_stops F (n - 1) hf2 hro (by omega) (w.heap.size + 1 + 1 + 1) W0 A0 c0 l0 hr0 hr0.2.1 bS.cell) belowK_t (belowK_b (Nat.le_refl _)) (Below.refl _ _) (fun _ => rfl)
    (fun pre W => ((((∀ x ∈ pre, ¬ (rd_T80 l0 ((x : Nat) : Int)).f0.toList = a1.toList) ∧ Boxed W w.heap.size 9 (.string a1)) ∧ Boxed W (w.heap.size + 1) 9 (.string (⟨#[]⟩ : ByteArray))) ∧ Boxed W (w.heap.size + 1 + 1) 4 (.bool false)) ∧ Below W0.heap.size W0 W)
    (fun c pre W => (((c = .ret ∧ ∃ pre' x, pre = pre' ++ [x] ∧ (∀ y ∈ pre', ¬ (rd_T80 l0 ((y : Nat) : Int)).f0.toList = a1.toList) ∧ (rd_T80 l0 ((x : Nat) : Int)).f0.toList = a1.toList) ∧ Boxed W (w.heap.size + 1) 9 (.string (rd_T80 l0 ((pre.getLastD 0 : Nat) : Int)).f1)) ∧ Boxed W (w.heap.size + 1 + 1) 4 (.bool true)) ∧ Below w.heap.size w W)
    (OwnFrom.and (OwnFrom.and (OwnFrom.and (OwnFrom.and (ownFrom_pure _ _) (Own.from (boxed_own _ _ _) _)) (Own.from (boxed_own _ _ _) _)) (Own.from (boxed_own _ _ _) _)) (ownFrom_below (Nat.le_refl _) (Nat.le_refl _)))
    (fun c => OwnFrom.and (OwnFrom.and (OwnFrom.and (ownFrom_pure _ _) (Own.from (boxed_own _ _ _) _)) (Own.from (boxed_own _ _ _) _)) (ownFrom_below (Nat.le_refl _) (by omega)))
    ⟨⟨⟨⟨by simp, bP⟩, bR⟩, bK⟩, Below.refl _ _⟩
    (fun x a' W => ∃ Bx, W0.heap.size ≤ Bx ∧ impl_SpaceOf.Two W Bx (.string (rd_T80 l0 ((x : Nat) : Int)).f0) (.string (rd_T80 l0 ((x : Nat) : Int)).f1) ∧ a' = { tmps := #[.slice A0 l0.length c0, .string a1, undef, .pointer (some ⟨w.heap.size, 0, none⟩), .pointer (some ⟨w.heap.size + 1, 0, none⟩), .pointer (some ⟨w.heap.size + 1 + 1, 0, none⟩), undef, .pointer (some ⟨Bx, 0, none⟩), .slice A0 l0.length c0, .func (.func 137) #[] #[.pointer (some ⟨w.heap.size + 1 + 1 + 1, 0, none⟩)], .int .i64 (x : Int), .agg #[.string (rd_T80 l0 ((x : Nat) : Int)).f0, .string (rd_T80 l0 ((x : Nat) : Int)).f1], undef, undef, undef, undef, undef, undef, undef, undef], defers := [] })
    (fun x a' _ X Y row hs hg hr => by
      obtain ⟨Bx, e1, e2, e3⟩ := hs
      exact ⟨Bx, e1, e2.kept hg (fun e' => by obtain ⟨_, o, ho, hc⟩ := hr Bx e'.symm; rw [show X.heap[Bx]? = _ from e2] at ho; cases ho; cases hc), e3⟩)
    ?assign ?body ?done ?stop
  case assign =>
    rintro l pre x W K ⟨⟨⟨⟨hp, bP1⟩, bR1⟩, bK1⟩, hB1⟩ hK
    unfold impl_SpaceOf.enc
    gi_wp2
    exact hK _ _ ((KeepsOthers.alloc _ _).from _) ((Below.refl _ W).alloc hB1.size _) ⟨⟨⟨⟨hp, bP1.alloc _⟩, bR1.alloc _⟩, bK1.alloc _⟩, hB1.alloc hB1.size _⟩ ⟨W.heap.size, hB1.size, World.alloc_heap_new W _, rfl⟩
  case body =>
    rintro l pre x a' W hl ⟨r, hr'⟩ ⟨⟨⟨⟨hp, bP1⟩, bR1⟩, bK1⟩, hB1⟩ ⟨Bx, hBx, bX, rfl⟩ hlt
    have cP := bP1.cell
    obtain ⟨cX0, cX1⟩ := bX.cells
    have cR := bR1.cell
    have fR := bR1.frozen
    have cK := bK1.cell
    have fK := bK1.frozen
    have hu := Tryz.underlying80
    by_cases he : (rd_T80 l0 ((x : Nat) : Int)).f0.toList = a1.toList
    · have heb : ((rd_T80 l0 ((x : Nat) : Int)).f0.toList == a1.toList) = true := beq_iff_eq.2 he
      gi_wp2
      have hBw : Below w.heap.size w W := hB0.trans (hB1.mono hB0.size)
      refine ⟨((KeepsOthers.setCell _ _ _).from _).trans ((KeepsOthers.setCell _ _ _).from _), ⟨⟨⟨rfl, pre, x, rfl, hp, he⟩, ?_⟩, ?_⟩, (hBw.setCell (p := ⟨w.heap.size + 1, 0, none⟩) (by simp) _).setCell (p := ⟨w.heap.size + 1 + 1, 0, none⟩) (by simp; omega) _⟩
      · have hlast : (pre ++ [x]).getLastD 0 = x := by simp
        rw [hlast]
        exact (bR1.set _).other (by omega) _
      · exact (bK1.other (by omega) _).set _
    · have heb : ((rd_T80 l0 ((x : Nat) : Int)).f0.toList == a1.toList) = false := beq_eq_false_iff_ne.2 he
      gi_wp2
      exact ⟨KeepsFrom.refl _ _, Below.refl _ _, ⟨⟨⟨fun y hy => (List.mem_append.1 hy).elim (hp y) (fun e => by simp at e; subst e; exact he), bP1⟩, bR1⟩, bK1⟩, hB1⟩
  case done =>
    rintro D zs W hD rfl ⟨⟨⟨⟨hp, bP1⟩, bR1⟩, bK1⟩, hB1⟩ hK
    have cP := bP1.cell
    have cR := bR1.cell
    have fR := bR1.frozen
    have cK := bK1.cell
    have fK := bK1.frozen
    gi_wp2
    gi_region
    all_goals gi_wp2
    all_goals
      have hK' : (((W.setCell ⟨w.heap.size + 1, 0, none⟩ (.string (⟨#[]⟩ : ByteArray))).setCell ⟨w.heap.size + 1 + 1, 0, none⟩ (.bool a1.toList.isEmpty)).drew).heap[D]? = some (.deferred (some [])) := ((KeepsOthers.setCell _ _ _).from 0).same D _ (Nat.zero_le _) (((KeepsOthers.setCell _ _ _).from 0).same D _ (Nat.zero_le _) hK rfl) rfl
      refine ⟨by simp, .inl ⟨_, _, rfl, run_takeDeferred hK', ?_⟩⟩
      have hb1 : Boxed ((W.setCell ⟨w.heap.size + 1, 0, none⟩ (.string (⟨#[]⟩ : ByteArray))).setCell ⟨w.heap.size + 1 + 1, 0, none⟩ (.bool a1.toList.isEmpty)) (w.heap.size + 1) 9 (.string (⟨#[]⟩ : ByteArray)) := (bR1.set _).other (by omega) _
      have hb2 : Boxed ((W.setCell ⟨w.heap.size + 1, 0, none⟩ (.string (⟨#[]⟩ : ByteArray))).setCell ⟨w.heap.size + 1 + 1, 0, none⟩ (.bool a1.toList.isEmpty)) (w.heap.size + 1 + 1) 4 (.bool a1.toList.isEmpty) := (bK1.other (by omega) _).set _
      have hc1 := cell_kept (show World.cell? (((W.setCell ⟨w.heap.size + 1, 0, none⟩ (.string (⟨#[]⟩ : ByteArray))).setCell ⟨w.heap.size + 1 + 1, 0, none⟩ (.bool a1.toList.isEmpty)).drew) ⟨w.heap.size + 1, 0, none⟩ = _ from hb1.cell) (grownBy_putObj' _ D (.deferred none)) (fun r e => by cases e; exact ⟨_, hK', rfl⟩)
      have hc2 := cell_kept (show World.cell? (((W.setCell ⟨w.heap.size + 1, 0, none⟩ (.string (⟨#[]⟩ : ByteArray))).setCell ⟨w.heap.size + 1 + 1, 0, none⟩ (.bool a1.toList.isEmpty)).drew) ⟨w.heap.size + 1 + 1, 0, none⟩ = _ from hb2.cell) (grownBy_putObj' _ D (.deferred none)) (fun r e => by cases e; exact ⟨_, hK', rfl⟩)
      have hBw : Below w.heap.size w W := hB0.trans (hB1.mono hB0.size)
      refine ⟨.tuple #[.string (⟨#[]⟩ : ByteArray), .bool a1.toList.isEmpty], ?_, ⟨⟨_, _, impl_SpaceOf.f_miss l0 a1 hp, rfl⟩, ?_⟩⟩
      · simp [results, Tryz.f59, go_sem, hc1, hc2]
      · exact (below_drew ((hBw.setCell (p := ⟨w.heap.size + 1, 0, none⟩) (by simp) _).setCell (p := ⟨w.heap.size + 1 + 1, 0, none⟩) (by simp; omega) _)).trans (belowK_b (w := w) (Nat.le_refl _) _ D _ _ (by omega) hK' rfl rfl)
  case stop =>
    rintro D c pre W hD hpre ⟨⟨⟨⟨rfl, pre', x, rfl, hno, he⟩, bR1⟩, bK1⟩, hB1⟩ hK
    gi_wp2
    refine ⟨by simp, .inl ⟨_, _, rfl, run_takeDeferred hK, ?_⟩⟩
    have hc1 := cell_kept bR1.cell (grownBy_putObj' _ D (.deferred none)) (fun r e => by cases e; exact ⟨_, hK, rfl⟩)
    have hc2 := cell_kept bK1.cell (grownBy_putObj' _ D (.deferred none)) (fun r e => by cases e; exact ⟨_, hK, rfl⟩)
    refine ⟨.tuple #[.string (rd_T80 l0 ((x : Nat) : Int)).f1, .bool true], ?_, ⟨⟨_, _, ?_, rfl⟩, ?_⟩⟩
    · have hlast : (pre' ++ [x]).getLastD 0 = x := by simp
      rw [hlast] at hc1
      simp [results, Tryz.f59, go_sem, hc1, hc2]
    · obtain ⟨k, hk, hcame⟩ := hpre
      exact impl_SpaceOf.f_hit l0 a1 k pre' x hcame hk hno he
    · exact hB1.trans (belowK_b (w := w) (Nat.le_refl _) W D _ _ (by omega) hK rfl rfl)
theorem impl_SpaceOf.calls (A0 : Option Addr) (c0 : Nat) (l0 : List S80) (a1 : ByteArray) (r1 : ByteArray) (r2 : Bool) (w : World) (hr0 : Kd.C k80 w A0 l0.length l0) (hc0 : l0.length ≤ c0) (h : impl_SpaceOf.f l0 a1 = some (r1, r2)) :
    Calls Tryz.prog 59 #[.slice A0 l0.length c0, .string a1] w fun e w' => e = .returned (.tuple #[.string r1, .bool r2]) ∧ Below w.heap.size w w' := by
  refine ((callsIn_wide (n := 6)).1 (impl_SpaceOf.in_ _ 6 trivial trivial trivial rfl (Nat.le_refl _) A0 c0 l0 a1 w hr0)).mono ?_
  rintro e w' ⟨⟨q1, q2, hq, rfl⟩, hb⟩
  rw [h] at hq
  cases hq
  exact ⟨rfl, hb⟩
end

/-! ### impl_Attr_99: function 99 -/
def impl_Attr_99.val (d : S75) : Value := .agg #[.string d.f0, .string d.f1, .string d.f2, .string d.f3]
/-- What IndexFunc answers: the first place, or -1. -/
def impl_Attr_99.idx (p : S75 → Bool) (l : List S75) : Int := if l.findIdx p < l.length then ((l.findIdx p : Nat) : Int) else -1
theorem impl_Attr_99.idx_hit (p : S75 → Bool) (l : List S75) (k : Nat) (hk : k < l.length) (hp : p (rd_T75 l (k : Int)) = true) (h : ∀ j, j < k → p (rd_T75 l (j : Int)) = false) : impl_Attr_99.idx p l = (k : Int) := by
  have e : ∀ j, j < l.length → ∀ h, rd_T75 l (j : Int) = l[j]'h := fun j hj h => by simp [rd_T75, List.getD_eq_getElem?_getD, List.getElem?_eq_getElem hj]
  have : l.findIdx p = k := (List.findIdx_eq hk).2 ⟨by rw [← e k hk]; exact hp, fun j hj => by rw [← e j (by omega)]; exact h j hj⟩
  unfold impl_Attr_99.idx
  rw [this, if_pos hk]
theorem impl_Attr_99.idx_miss (p : S75 → Bool) (l : List S75) (h : ∀ j, j < l.length → p (rd_T75 l (j : Int)) = false) : impl_Attr_99.idx p l = -1 := by
  have : ¬ l.findIdx p < l.length := fun hlt => by
    have h1 := List.findIdx_getElem (w := hlt)
    have h2 := h _ hlt
    have e : rd_T75 l ((l.findIdx p : Nat) : Int) = l[l.findIdx p]'hlt := by simp [rd_T75, List.getD_eq_getElem?_getD, List.getElem?_eq_getElem hlt]
    rw [e, h1] at h2
    cases h2
  unfold impl_Attr_99.idx
  rw [if_neg this]
set_option maxHeartbeats 4000000 in
set_option maxRecDepth 100000 in
theorem impl_Attr_99.calls (p : S75 → Bool) (g : Nat) (lb : Array Value) (eg : ∀ args w, (callFunc g args).run Tryz.prog w = .ok (.enter g args) w) (A0 : Option Addr) (c0 : Nat) (l0 : List S75) (w : World)
    (hp : ∀ (W : World) (d : S75), Below w.heap.size w W → Calls Tryz.prog g (#[.agg #[.string d.f0, .string d.f1, .string d.f2, .string d.f3]] ++ lb) W fun e w' => e = .returned (.bool (p d)) ∧ Below W.heap.size W w')
    (hr0 : Kd.C k75 w A0 l0.length l0) (hl0 : l0.length ≤ 9223372036854775807) :
    Calls Tryz.prog 99 #[.slice A0 l0.length c0, .func (.func g) #[] lb] w fun e w' => e = .returned (.int .i64 (impl_Attr_99.idx p l0)) ∧ Below w.heap.size w w' := by
  have HR0 := Aside0.mk hr0
  have HP := Aside0.mk hp
  clear hr0 hp
  have hu := Tryz.underlying75
  go_enter Tryz.func99, Tryz.ntmps99
  go_wp2
  go_loopg [5, 8] l0.length (fun gg _ s8 wr => ∃ kk : Nat, kk ≤ l0.length ∧ l0.length - kk ≤ gg ∧ s8 = .int .i64 kk ∧ Aside0 (Below w.heap.size w wr) ∧ Aside0 (∀ j : Nat, j < kk → p (rd_T75 l0 (j : Int)) = false))
  case atStart => exact ⟨0, Nat.zero_le _, by omega, rfl, ⟨Below.refl _ w⟩, ⟨fun j hj => absurd hj (Nat.not_lt_zero _)⟩⟩
  case round =>
    obtain ⟨kk, hkk, hg, rfl, BW, A⟩ := hrel
    by_cases hlt : kk < l0.length
    · have hltz : (kk : Int) < (l0.length : Int) := by omega
      obtain ⟨ad, ead, z0, z1, z2, z3⟩ := at_T75 (Kd.C_below HR0.out BW.out) (kk : Int) (by omega) (by omega)
      simp only [Int.toNat_natCast] at z0 z1 z2 z3
      cases ead
      have hcall := HP.out wr (rd_T75 l0 (kk : Int)) BW.out
      generalize hd : rd_T75 l0 (kk : Int) = d at hcall z0 z1 z2 z3
      have HD := Aside0.mk hd
      clear hd
      cases hq : p d with
      | true =>
        rw [hq] at hcall
        have HQ := Aside0.mk hq
        clear hq
        go_wp2_with (go_at_fn g; refine hcall.mono ?_; rintro e w' ⟨rfl, hb'⟩)
        go_ret
        refine ⟨?_, BW.out.trans (hb'.mono BW.out.size)⟩
        rw [impl_Attr_99.idx_hit p l0 kk hlt (by rw [HD.out]; exact HQ.out) A.out]
        rfl
      | false =>
        rw [hq] at hcall
        have HQ := Aside0.mk hq
        clear hq
        go_wp2_with (go_at_fn g; refine hcall.mono ?_; rintro e w' ⟨rfl, hb'⟩)
        go_roundg (l0.length - (kk + 1))
        case measure => omega
        case rel =>
          refine ⟨kk + 1, by omega, by omega, by go_num, ⟨BW.out.trans (hb'.mono BW.out.size)⟩, ⟨fun j hj => ?_⟩⟩
          by_cases e : j = kk
          · subst e
            rw [HD.out]
            exact HQ.out
          · exact A.out j (by omega)
    · have hltz : ¬ (kk : Int) < (l0.length : Int) := by omega
      have : kk = l0.length := by omega
      subst this
      go_wp2
      go_ret
      exact ⟨by rw [impl_Attr_99.idx_miss p l0 A.out]; rfl, BW.out⟩

/-! ### impl_Attr_60: function 60 -/
theorem impl_Attr_60.any_idx (p : S75 → Bool) (l : List S75) : decide (0 ≤ impl_Attr_99.idx p l) = l.any p := by
  unfold impl_Attr_99.idx
  by_cases h : l.findIdx p < l.length
  · rw [if_pos h]
    have := List.findIdx_getElem (w := h)
    rw [List.any_eq_true.2 ⟨_, List.getElem_mem h, this⟩]
    exact decide_eq_true (by omega)
  · rw [if_neg h]
    have h2 : ∀ x ∈ l, ¬ p x = true := fun x hx hpx => h (List.findIdx_lt_length_of_exists ⟨x, hx, hpx⟩)
    rw [List.any_eq_false.2 h2]
    rfl
theorem impl_Attr_60.calls (p : S75 → Bool) (g : Nat) (lb : Array Value) (eg : ∀ args w, (callFunc g args).run Tryz.prog w = .ok (.enter g args) w) (A0 : Option Addr) (c0 : Nat) (l0 : List S75) (w : World)
    (hp : ∀ (W : World) (d : S75), Below w.heap.size w W → Calls Tryz.prog g (#[.agg #[.string d.f0, .string d.f1, .string d.f2, .string d.f3]] ++ lb) W fun e w' => e = .returned (.bool (p d)) ∧ Below W.heap.size W w')
    (hr0 : Kd.C k75 w A0 l0.length l0) (hl0 : l0.length ≤ 9223372036854775807) :
    Calls Tryz.prog 60 #[.slice A0 l0.length c0, .func (.func g) #[] lb] w fun e w' => e = .returned (.bool (l0.any p)) ∧ Below w.heap.size w w' := by
  have h := impl_Attr_99.calls p g lb eg A0 c0 l0 w hp hr0 hl0
  have hi := impl_Attr_60.any_idx p l0
  clear hp hr0
  generalize l0.any p = r at hi ⊢
  generalize impl_Attr_99.idx p l0 = i at hi h
  have HI := Aside0.mk hi
  clear hi
  go_enter Tryz.func60, Tryz.ntmps60
  go_wp2_with (go_at_call 99; refine h.mono ?_; rintro e w' ⟨rfl, hb'⟩)
  go_ret
  exact ⟨by rw [← HI.out]; rfl, hb'⟩

/-! ### impl_FitsIn: function 23 -/
def impl_FitsIn.means (l0 : List S80) (uri pre : ByteArray) : Bool :=
  match impl_SpaceOf.f l0 pre with
  | some r => r.2 && (r.1.toList == uri.toList)
  | none => false
theorem impl_FitsIn.space_some (l0 : List S80) (pre : ByteArray) : ∃ s ok, impl_SpaceOf.f l0 pre = some (s, ok) := by
  unfold impl_SpaceOf.f
  split <;> exact ⟨_, _, rfl⟩
def impl_FitsIn.q (own : List S80) (d : S75) : Bool := !(d.f0.toList == []) && !impl_FitsIn.means own d.f2 d.f0
def impl_FitsIn.f : Nat → Int → ByteArray → ByteArray → ByteArray → List (S80) → List (S75) → List (S33) → ByteArray → List (S80) → Option Bool
  | 0, _, _, _, _, _, _, _, _, _ => none
  | k + 1, a0_0, a0_1, a0_2, a0_3, l0_4, l0_5, l0_6, a0_7, l1 => (impl_Inner.f k l1 l0_4).bind fun own =>
    if (decide (a0_0 = 1) && !impl_FitsIn.means own a0_3 a0_1) = true then some false
    else if l0_5.any (impl_FitsIn.q own) = true then some false
    else (impl_Node_62.any (fun x => (impl_FitsIn.f k x.f0 x.f1 x.f2 x.f3 x.f4 x.f5 x.f6 x.f7 own).map not) l0_6).map not
set_option maxRecDepth 100000 in
set_option maxHeartbeats 1000000 in
theorem impl_FitsIn.lit1 (l0 : List S80) (uri pre : ByteArray) (B1 : Nat) (A0 : Option Addr) (c0 : Nat) (W : World) (hr0 : Kd.C k80 W A0 l0.length l0) (hc0 : l0.length ≤ c0) (h1 : W.cell? ⟨B1, 0, none⟩ = some (.slice A0 l0.length c0)) :
    Calls Tryz.prog 58 #[.string pre, .string uri, .pointer (some ⟨B1, 0, none⟩)] W
      fun e w' => e = .returned (.bool (impl_FitsIn.means l0 uri pre)) ∧ Below W.heap.size W w' := by
  obtain ⟨s, ok, hs⟩ := impl_FitsIn.space_some l0 pre
  have hS := impl_SpaceOf.calls A0 c0 l0 pre s ok W hr0 hc0 hs
  have hu := Tryz.underlying80
  have hm : impl_FitsIn.means l0 uri pre = (ok && (s.toList == uri.toList)) := by
    unfold impl_FitsIn.means
    rw [hs]
  rw [hm]
  clear hs hr0 hm
  cases ok with
  | false =>
    (try simp only [Bool.true_and, Bool.false_and, Bool.not_true, Bool.not_false])
    go_enter Tryz.func58, Tryz.ntmps58
    go_wp2_with (go_at_call 59; refine hS.mono ?_; rintro e w' ⟨rfl, hb⟩)
    go_ret
    exact ⟨rfl, hb⟩
  | true =>
    cases hq : s.toList == uri.toList with
    | false =>
      (try simp only [Bool.true_and, Bool.false_and, Bool.not_true, Bool.not_false])
      go_enter Tryz.func58, Tryz.ntmps58
      go_wp2_with (go_at_call 59; refine hS.mono ?_; rintro e w' ⟨rfl, hb⟩)
      go_ret
      exact ⟨rfl, hb⟩
    | true =>
      (try simp only [Bool.true_and, Bool.false_and, Bool.not_true, Bool.not_false])
      go_enter Tryz.func58, Tryz.ntmps58
      go_wp2_with (go_at_call 59; refine hS.mono ?_; rintro e w' ⟨rfl, hb⟩)
      go_ret
      exact ⟨rfl, hb⟩
/-- What stands within: the slice in one block, the function in another. -/
def impl_FitsIn.St (W : World) (B5 B6 : Nat) (Ao : Option Addr) (co : Nat) (own : List S80) : Prop :=
  Kd.C k80 W Ao own.length own ∧ own.length ≤ co ∧ W.cell? ⟨B5, 0, none⟩ = some (.slice Ao own.length co) ∧ W.cell? ⟨B6, 0, none⟩ = some (.func (.func 58) #[] #[.pointer (some ⟨B5, 0, none⟩)])
theorem impl_FitsIn.St.below {W W1 : World} {B5 B6 : Nat} {Ao : Option Addr} {co : Nat} {own : List S80} (h : impl_FitsIn.St W B5 B6 Ao co own) (hb : Below W.heap.size W W1) : impl_FitsIn.St W1 B5 B6 Ao co own :=
  ⟨Kd.C_below h.1 hb, h.2.1, pw_cell_below hb h.2.2.1, pw_cell_below hb h.2.2.2⟩
theorem impl_FitsIn.means_at {W : World} {B5 B6 : Nat} {Ao : Option Addr} {co : Nat} {own : List S80} (h : impl_FitsIn.St W B5 B6 Ao co own) (uri pre : ByteArray) (b : Bool) (hm : impl_FitsIn.means own uri pre = b) :
    Calls Tryz.prog 58 #[.string pre, .string uri, .pointer (some ⟨B5, 0, none⟩)] W fun e w' => e = .returned (.bool b) ∧ Below W.heap.size W w' := by
  subst hm
  exact impl_FitsIn.lit1 own uri pre B5 Ao co W h.1 h.2.1 h.2.2.1
set_option maxRecDepth 100000 in
set_option maxHeartbeats 1000000 in
theorem impl_FitsIn.lit2 (own : List S80) (d : S75) (B5 B6 : Nat) (Ao : Option Addr) (co : Nat) (W : World) (hst : impl_FitsIn.St W B5 B6 Ao co own) :
    Calls Tryz.prog 61 #[.agg #[.string d.f0, .string d.f1, .string d.f2, .string d.f3], .pointer (some ⟨B6, 0, none⟩)] W
      fun e w' => e = .returned (.bool (impl_FitsIn.q own d)) ∧ Below W.heap.size W w' := by
  have hu := Tryz.underlying75
  have eg : ∀ args w, (callFunc 58 args).run Tryz.prog w = .ok (.enter 58 args) w := enters_of Tryz.func58 (by kernel_rfl) rfl
  have hc6 := hst.2.2.2
  have hlt6 : B6 < W.heap.size := World.block_lt_of_cell? W _ hc6
  have ST := Aside0.mk hst
  clear hst
  by_cases he : d.f0.toList = []
  · have hq : impl_FitsIn.q own d = false := by unfold impl_FitsIn.q; rw [he]; rfl
    rw [hq]
    clear hq
    (try simp only [Bool.true_and, Bool.false_and, Bool.not_true, Bool.not_false])
    go_enter Tryz.func61, Tryz.ntmps61
    go_wp2
    go_ret
    exact ⟨rfl, below_alloc (Below.refl _ _) _⟩
  · have hq : impl_FitsIn.q own d = !impl_FitsIn.means own d.f2 d.f0 := by unfold impl_FitsIn.q; simp [he]
    rw [hq]
    clear hq
    have hM := fun (W1 : World) (hW : Below W.heap.size W W1) => impl_FitsIn.means_at (ST.out.below hW) d.f2 d.f0 _ rfl
    cases hm : impl_FitsIn.means own d.f2 d.f0 with
    | true =>
      simp only [hm] at hM
      clear hm
      (try simp only [Bool.true_and, Bool.false_and, Bool.not_true, Bool.not_false])
      go_enter Tryz.func61, Tryz.ntmps61
      go_wp2_with (go_at_fn 58; refine (hM _ (below_alloc (Below.refl _ _) _)).mono ?_; rintro e w' ⟨rfl, hb⟩)
      go_ret
      exact ⟨by first | rfl | simp [he], below_then (below_alloc (Below.refl _ _) _) (by simp) hb⟩
    | false =>
      simp only [hm] at hM
      clear hm
      (try simp only [Bool.true_and, Bool.false_and, Bool.not_true, Bool.not_false])
      go_enter Tryz.func61, Tryz.ntmps61
      go_wp2_with (go_at_fn 58; refine (hM _ (below_alloc (Below.refl _ _) _)).mono ?_; rintro e w' ⟨rfl, hb⟩)
      go_ret
      exact ⟨by first | rfl | simp [he], below_then (below_alloc (Below.refl _ _) _) (by simp) hb⟩
set_option maxRecDepth 100000 in
set_option maxHeartbeats 1000000 in
theorem impl_FitsIn.lit3 (own : List S80) (b : Bool) (x : S33) (A4 A5 A6 : Option Addr) (c4 c5 c6 : Nat) (B5 B6 : Nat) (Ao : Option Addr) (co : Nat) (W : World) (hst : impl_FitsIn.St W B5 B6 Ao co own)
    (hC : ∀ W1, Below W.heap.size W W1 → Calls Tryz.prog 23 #[.agg #[.int .i64 x.f0, .string x.f1, .string x.f2, .string x.f3, .slice A4 x.f4.length c4, .slice A5 x.f5.length c5, .slice A6 x.f6.length c6, .string x.f7], .slice Ao own.length co] W1 fun e w' => e = .returned (.bool b) ∧ Below W1.heap.size W1 w') :
    Calls Tryz.prog 63 #[.agg #[.int .i64 x.f0, .string x.f1, .string x.f2, .string x.f3, .slice A4 x.f4.length c4, .slice A5 x.f5.length c5, .slice A6 x.f6.length c6, .string x.f7], .pointer (some ⟨B5, 0, none⟩)] W
      fun e w' => e = .returned (.bool (!b)) ∧ Below W.heap.size W w' := by
  have hu := Tryz.underlying33
  have hc5 := hst.2.2.1
  have hlt5 : B5 < W.heap.size := World.block_lt_of_cell? W _ hc5
  have HC := Aside0.mk hC
  clear hst hC
  generalize x.f4.length = n4 at HC ⊢
  generalize x.f5.length = n5 at HC ⊢
  generalize x.f6.length = n6 at HC ⊢
  go_enter Tryz.func63, Tryz.ntmps63
  go_wp2_with (go_at_call 23; refine (HC.out _ (below_alloc (Below.refl _ _) _)).mono ?_; rintro e w' ⟨rfl, hb⟩)
  go_ret
  exact ⟨rfl, below_then (below_alloc (Below.refl _ _) _) (by simp) hb⟩
theorem impl_FitsIn.st_new {W : World} {Ao : Option Addr} {co : Nat} {own : List S80} {t t2 : TypeId} (h : Kd.C k80 W Ao own.length own) (hc : own.length ≤ co) :
    impl_FitsIn.St ((W.alloc (.cells #[.slice Ao own.length co] t)).alloc (.cells #[.func (.func 58) #[] #[.pointer (some ⟨W.heap.size, 0, none⟩)]] t2)) W.heap.size (W.heap.size + 1) Ao co own := by
  refine ⟨Kd.C_alloc (Kd.C_alloc h _) _, hc, ?_, ?_⟩
  · rw [World.cell?_alloc_past _ _ _ (by simp), World.cell?_alloc_at _ _ _ _ rfl]
    rfl
  · rw [World.cell?_alloc_at _ _ _ _ (by simp)]
    rfl
theorem impl_FitsIn.boxed {w w1 : World} {cs : Array Value} {t : TypeId} (hb : Below (w.heap.size + 1) (w.alloc (.cells cs t)) w1) (i : Nat) {u : Value} (hu : cs[i]? = some u) : w1.cell? ⟨w.heap.size, i, none⟩ = some u := by
  have h : (w.alloc (.cells cs t)).cell? ⟨w.heap.size, i, none⟩ = some u := by rw [World.cell?_alloc_at _ _ _ _ rfl]; simpa using hu
  exact (hb.cell (p := ⟨w.heap.size, i, none⟩) (by simp)).trans h
theorem impl_FitsIn.calls (k : Nat) : ∀ (a0_0 : Int) (a0_1 : ByteArray) (a0_2 : ByteArray) (a0_3 : ByteArray) (A0_4 : Option Addr) (c0_4 : Nat) (l0_4 : List (S80)) (A0_5 : Option Addr) (c0_5 : Nat) (l0_5 : List (S75)) (A0_6 : Option Addr) (c0_6 : Nat) (l0_6 : List (S33)) (a0_7 : ByteArray) (A1 : Option Addr) (c1 : Nat) (l1 : List (S80)) (r : Bool) (w : World) (hr0_4 : Kd.C k80 w A0_4 l0_4.length l0_4) (hc0_4 : l0_4.length ≤ c0_4) (hr0_5 : Kd.C k75 w A0_5 l0_5.length l0_5) (hc0_5 : l0_5.length ≤ c0_5) (hr0_6 : Kd.C k33 w A0_6 l0_6.length l0_6) (hc0_6 : l0_6.length ≤ c0_6) (hr1 : Kd.C k80 w A1 l1.length l1) (hc1 : l1.length ≤ c1) (h : impl_FitsIn.f k a0_0 a0_1 a0_2 a0_3 l0_4 l0_5 l0_6 a0_7 l1 = some r),
    Calls Tryz.prog 23 #[.agg #[.int .i64 a0_0, .string a0_1, .string a0_2, .string a0_3, .slice A0_4 l0_4.length c0_4, .slice A0_5 l0_5.length c0_5, .slice A0_6 l0_6.length c0_6, .string a0_7], .slice A1 l1.length c1] w fun e w' => e = .returned (.bool r) ∧ Below w.heap.size w w' := by
  induction k with
  | zero => intro a0_0 a0_1 a0_2 a0_3 A0_4 c0_4 l0_4 A0_5 c0_5 l0_5 A0_6 c0_6 l0_6 a0_7 A1 c1 l1 r w hr0_4 hc0_4 hr0_5 hc0_5 hr0_6 hc0_6 hr1 hc1 h; exact absurd h (by simp [impl_FitsIn.f])
  | succ k ih =>
  intro a0_0 a0_1 a0_2 a0_3 A0_4 c0_4 l0_4 A0_5 c0_5 l0_5 A0_6 c0_6 l0_6 a0_7 A1 c1 l1 r w hr0_4 hc0_4 hr0_5 hc0_5 hr0_6 hc0_6 hr1 hc1 h
  simp only [impl_FitsIn.f] at h
  obtain ⟨own, ho, h⟩ := Option.bind_eq_some_iff.1 h
  have hI := fun (W : World) (hW : Below w.heap.size w W) => impl_Inner.calls k _ A1 c1 l1 _ A0_4 c0_4 l0_4 own W (Kd.V_mk hc1 (Kd.C_F (Kd.heap_iso _ (Kd.heap_pair Kd.heap_string Kd.heap_string)) (Kd.C_below hr1 hW))) (Kd.V_mk hc0_4 (Kd.C_F (Kd.heap_iso _ (Kd.heap_pair Kd.heap_string Kd.heap_string)) (Kd.C_below hr0_4 hW))) ho
  have hA := fun (W : World) (B5 B6 : Nat) (Ao : Option Addr) (co : Nat) (hW : Below w.heap.size w W) (hst : impl_FitsIn.St W B5 B6 Ao co own) =>
    impl_Attr_60.calls (impl_FitsIn.q own) 61 #[.pointer (some ⟨B6, 0, none⟩)] (enters_of Tryz.func61 (by kernel_rfl) rfl) A0_5 c0_5 l0_5 W
      (fun W2 d hb => impl_FitsIn.lit2 own d B5 B6 Ao co W2 (hst.below hb)) (Kd.C_below hr0_5 hW) (Kd.C_below hr0_5 hW).2.1
  have hN := fun (W : World) (B5 B6 : Nat) (Ao : Option Addr) (co : Nat) (q : Bool) (hW : Below w.heap.size w W) (hst : impl_FitsIn.St W B5 B6 Ao co own) (hq : impl_Node_62.any (fun x => (impl_FitsIn.f k x.f0 x.f1 x.f2 x.f3 x.f4 x.f5 x.f6 x.f7 own).map not) l0_6 = some q) =>
    impl_Node_62.calls (fun x => (impl_FitsIn.f k x.f0 x.f1 x.f2 x.f3 x.f4 x.f5 x.f6 x.f7 own).map not) 63 #[.pointer (some ⟨B5, 0, none⟩)] (enters_of Tryz.func63 (by kernel_rfl) rfl) A0_6 c0_6 l0_6 q W
      (fun W2 x v b hx hp hv hb2 => by
        obtain ⟨b', hp', rfl⟩ := Option.map_eq_some_iff.1 hp
        obtain ⟨E4, e4, E5, e5, E6, e6, rfl, q4, r4, q5, r5, q6, r6⟩ := hv
        exact impl_FitsIn.lit3 own b' x _ _ _ _ _ _ B5 B6 Ao co W2 (hst.below hb2) (fun W3 hW3 => ih _ _ _ _ _ _ _ _ _ _ _ _ _ _ Ao co own b' W3 (Kd.C_below r4 hW3) q4 (Kd.C_below r5 hW3) q5 (Kd.C_below r6 hW3) q6 (Kd.C_below (hst.below hb2).1 hW3) hst.2.1 hp')) (Kd.C_below hr0_6 hW) hq
  have eg : ∀ args w, (callFunc 58 args).run Tryz.prog w = .ok (.enter 58 args) w := enters_of Tryz.func58 (by kernel_rfl) rfl
  have hu := Tryz.underlying33
  have HI := Aside0.mk hI
  have HN := Aside0.mk hN
  clear ih ho hr0_4 hc0_4 hr0_5 hc0_5 hr0_6 hc0_6 hr1 hc1
  by_cases h1 : a0_0 = 1
  · subst h1
    cases hm : impl_FitsIn.means own a0_3 a0_1 with
    | false =>
      have HM := Aside0.mk hm
      simp [hm] at h
      subst h
      clear hm hI hA hN
      go_enter Tryz.func23, Tryz.ntmps23
      go_wp2_with (first | (go_at_call 57; refine (HI.out _ (below_alloc (Below.refl _ _) _)).mono ?_; rintro e w' ⟨v, rfl, hR, hb⟩; obtain ⟨Ao, co, rfl, hco, hC⟩ := Kd.R_reads hR; have HRC := Aside0.mk hC; have HCO := Aside0.mk hco; have HW := Aside0.mk (below_then (below_alloc (Below.refl w.heap.size w) _) (by simp) hb); have hb0 := hb.mono (show (w.heap.size + 1) ≤ _ by simp); have hn0 := impl_FitsIn.boxed hb0 0 rfl; have hn1 := impl_FitsIn.boxed hb0 1 rfl; have hn3 := impl_FitsIn.boxed hb0 3 rfl; have hn5 := impl_FitsIn.boxed hb0 5 rfl; have hn6 := impl_FitsIn.boxed hb0 6 rfl; have hltw : w.heap.size < w'.heap.size := World.block_lt_of_cell? _ _ hn0; clear hR hC hco hb hb0) | (go_at_fn 58; refine (impl_FitsIn.means_at (impl_FitsIn.st_new HRC.out HCO.out) _ _ _ HM.out).mono ?_; rintro e w2 ⟨rfl, hb2⟩; have hB2 := below_then (below_alloc (below_alloc (Below.refl w'.heap.size w') _) _) (by simp; omega) hb2; have HST := Aside0.mk ((impl_FitsIn.st_new HRC.out HCO.out).below hb2); have hm5 := pw_cell_below hB2 hn5; have hm6 := pw_cell_below hB2 hn6; have HB2 := Aside0.mk (HW.out.trans (hB2.mono HW.out.size)); have HBB := Aside0.mk hB2; clear hb2 hB2))
      go_ret
      exact ⟨rfl, HB2.out⟩
    | true =>
      have HM := Aside0.mk hm
      simp only [hm, decide_true, Bool.not_true, Bool.and_false, Bool.false_eq_true, if_false] at h
      clear hm
      cases ha : l0_5.any (impl_FitsIn.q own) with
      | true =>
        simp only [ha, if_true] at h hA
        have HA := Aside0.mk hA
        cases h
        clear hA ha hI hN
        go_enter Tryz.func23, Tryz.ntmps23
        go_wp2_with (first | (go_at_call 57; refine (HI.out _ (below_alloc (Below.refl _ _) _)).mono ?_; rintro e w' ⟨v, rfl, hR, hb⟩; obtain ⟨Ao, co, rfl, hco, hC⟩ := Kd.R_reads hR; have HRC := Aside0.mk hC; have HCO := Aside0.mk hco; have HW := Aside0.mk (below_then (below_alloc (Below.refl w.heap.size w) _) (by simp) hb); have hb0 := hb.mono (show (w.heap.size + 1) ≤ _ by simp); have hn0 := impl_FitsIn.boxed hb0 0 rfl; have hn1 := impl_FitsIn.boxed hb0 1 rfl; have hn3 := impl_FitsIn.boxed hb0 3 rfl; have hn5 := impl_FitsIn.boxed hb0 5 rfl; have hn6 := impl_FitsIn.boxed hb0 6 rfl; have hltw : w.heap.size < w'.heap.size := World.block_lt_of_cell? _ _ hn0; clear hR hC hco hb hb0) | (go_at_fn 58; refine (impl_FitsIn.means_at (impl_FitsIn.st_new HRC.out HCO.out) _ _ _ HM.out).mono ?_; rintro e w2 ⟨rfl, hb2⟩; have hB2 := below_then (below_alloc (below_alloc (Below.refl w'.heap.size w') _) _) (by simp; omega) hb2; have HST := Aside0.mk ((impl_FitsIn.st_new HRC.out HCO.out).below hb2); have hm5 := pw_cell_below hB2 hn5; have hm6 := pw_cell_below hB2 hn6; have HB2 := Aside0.mk (HW.out.trans (hB2.mono HW.out.size)); have HBB := Aside0.mk hB2; clear hb2 hB2) | (go_at_call 60; refine (HA.out _ _ _ _ _ HB2.out HST.out).mono ?_; rintro e w3 ⟨rfl, hb3⟩; have hB3 := HBB.out.trans (hb3.mono HBB.out.size); have HST3 := Aside0.mk (HST.out.below hb3); have hp6 := pw_cell_below hB3 hn6; have HB3 := Aside0.mk (HB2.out.trans (hb3.mono HB2.out.size)); clear hb3 hB3))
        go_ret
        exact ⟨rfl, HB3.out⟩
      | false =>
        simp only [ha, Bool.false_eq_true, if_false] at h hA
        have HA := Aside0.mk hA
        obtain ⟨q, hq, rfl⟩ := Option.map_eq_some_iff.1 h
        have HQ := Aside0.mk hq
        clear hA ha hI hN h hq
        go_enter Tryz.func23, Tryz.ntmps23
        go_wp2_with (first | (go_at_call 57; refine (HI.out _ (below_alloc (Below.refl _ _) _)).mono ?_; rintro e w' ⟨v, rfl, hR, hb⟩; obtain ⟨Ao, co, rfl, hco, hC⟩ := Kd.R_reads hR; have HRC := Aside0.mk hC; have HCO := Aside0.mk hco; have HW := Aside0.mk (below_then (below_alloc (Below.refl w.heap.size w) _) (by simp) hb); have hb0 := hb.mono (show (w.heap.size + 1) ≤ _ by simp); have hn0 := impl_FitsIn.boxed hb0 0 rfl; have hn1 := impl_FitsIn.boxed hb0 1 rfl; have hn3 := impl_FitsIn.boxed hb0 3 rfl; have hn5 := impl_FitsIn.boxed hb0 5 rfl; have hn6 := impl_FitsIn.boxed hb0 6 rfl; have hltw : w.heap.size < w'.heap.size := World.block_lt_of_cell? _ _ hn0; clear hR hC hco hb hb0) | (go_at_fn 58; refine (impl_FitsIn.means_at (impl_FitsIn.st_new HRC.out HCO.out) _ _ _ HM.out).mono ?_; rintro e w2 ⟨rfl, hb2⟩; have hB2 := below_then (below_alloc (below_alloc (Below.refl w'.heap.size w') _) _) (by simp; omega) hb2; have HST := Aside0.mk ((impl_FitsIn.st_new HRC.out HCO.out).below hb2); have hm5 := pw_cell_below hB2 hn5; have hm6 := pw_cell_below hB2 hn6; have HB2 := Aside0.mk (HW.out.trans (hB2.mono HW.out.size)); have HBB := Aside0.mk hB2; clear hb2 hB2) | (go_at_call 60; refine (HA.out _ _ _ _ _ HB2.out HST.out).mono ?_; rintro e w3 ⟨rfl, hb3⟩; have hB3 := HBB.out.trans (hb3.mono HBB.out.size); have HST3 := Aside0.mk (HST.out.below hb3); have hp6 := pw_cell_below hB3 hn6; have HB3 := Aside0.mk (HB2.out.trans (hb3.mono HB2.out.size)); clear hb3 hB3) | (go_at_call 62; refine (HN.out _ _ _ _ _ q HB3.out HST3.out HQ.out).mono ?_; rintro e w4 ⟨rfl, hb4⟩))
        go_ret
        exact ⟨rfl, HB3.out.trans (hb4.mono HB3.out.size)⟩
  · have hd : decide (a0_0 = 1) = false := decide_eq_false h1
    simp only [hd, Bool.false_and, Bool.false_eq_true, if_false] at h
    have h1b : (a0_0 == 1) = false := by simpa using h1
    cases ha : l0_5.any (impl_FitsIn.q own) with
    | true =>
      simp only [ha, if_true] at h hA
      have HA := Aside0.mk hA
      cases h
      clear hA ha hI hN
      go_enter Tryz.func23, Tryz.ntmps23
      go_wp2_with (first | (go_at_call 57; refine (HI.out _ (below_alloc (Below.refl _ _) _)).mono ?_; rintro e w' ⟨v, rfl, hR, hb⟩; obtain ⟨Ao, co, rfl, hco, hC⟩ := Kd.R_reads hR; have HRC := Aside0.mk hC; have HCO := Aside0.mk hco; have HW := Aside0.mk (below_then (below_alloc (Below.refl w.heap.size w) _) (by simp) hb); have hb0 := hb.mono (show (w.heap.size + 1) ≤ _ by simp); have hn0 := impl_FitsIn.boxed hb0 0 rfl; have hn1 := impl_FitsIn.boxed hb0 1 rfl; have hn3 := impl_FitsIn.boxed hb0 3 rfl; have hn5 := impl_FitsIn.boxed hb0 5 rfl; have hn6 := impl_FitsIn.boxed hb0 6 rfl; have hltw : w.heap.size < w'.heap.size := World.block_lt_of_cell? _ _ hn0; clear hR hC hco hb hb0) | (go_at_call 60; refine (HA.out _ _ _ _ _ (below_alloc (below_alloc HW.out _) _) (impl_FitsIn.st_new HRC.out HCO.out)).mono ?_; rintro e w3 ⟨rfl, hb3⟩; have hB3 := below_then (below_alloc (below_alloc (Below.refl w'.heap.size w') _) _) (by simp; omega) hb3; have HST3 := Aside0.mk ((impl_FitsIn.st_new HRC.out HCO.out).below hb3); have hp6 := pw_cell_below hB3 hn6; have HB3 := Aside0.mk (HW.out.trans (hB3.mono HW.out.size)); clear hb3 hB3))
      go_ret
      exact ⟨rfl, HB3.out⟩
    | false =>
      simp only [ha, Bool.false_eq_true, if_false] at h hA
      have HA := Aside0.mk hA
      obtain ⟨q, hq, rfl⟩ := Option.map_eq_some_iff.1 h
      have HQ := Aside0.mk hq
      clear hA ha hI hN h hq
      go_enter Tryz.func23, Tryz.ntmps23
      go_wp2_with (first | (go_at_call 57; refine (HI.out _ (below_alloc (Below.refl _ _) _)).mono ?_; rintro e w' ⟨v, rfl, hR, hb⟩; obtain ⟨Ao, co, rfl, hco, hC⟩ := Kd.R_reads hR; have HRC := Aside0.mk hC; have HCO := Aside0.mk hco; have HW := Aside0.mk (below_then (below_alloc (Below.refl w.heap.size w) _) (by simp) hb); have hb0 := hb.mono (show (w.heap.size + 1) ≤ _ by simp); have hn0 := impl_FitsIn.boxed hb0 0 rfl; have hn1 := impl_FitsIn.boxed hb0 1 rfl; have hn3 := impl_FitsIn.boxed hb0 3 rfl; have hn5 := impl_FitsIn.boxed hb0 5 rfl; have hn6 := impl_FitsIn.boxed hb0 6 rfl; have hltw : w.heap.size < w'.heap.size := World.block_lt_of_cell? _ _ hn0; clear hR hC hco hb hb0) | (go_at_call 60; refine (HA.out _ _ _ _ _ (below_alloc (below_alloc HW.out _) _) (impl_FitsIn.st_new HRC.out HCO.out)).mono ?_; rintro e w3 ⟨rfl, hb3⟩; have hB3 := below_then (below_alloc (below_alloc (Below.refl w'.heap.size w') _) _) (by simp; omega) hb3; have HST3 := Aside0.mk ((impl_FitsIn.st_new HRC.out HCO.out).below hb3); have hp6 := pw_cell_below hB3 hn6; have HB3 := Aside0.mk (HW.out.trans (hB3.mono HW.out.size)); clear hb3 hB3) | (go_at_call 62; refine (HN.out _ _ _ _ _ q HB3.out HST3.out HQ.out).mono ?_; rintro e w4 ⟨rfl, hb4⟩))
      go_ret
      exact ⟨rfl, HB3.out.trans (hb4.mono HB3.out.size)⟩

/-! ### impl_TreeOk: function 13 -/
def impl_TreeOk.f (k : Nat) (a0_0 : Int) (a0_1 : ByteArray) (a0_2 : ByteArray) (a0_3 : ByteArray) (l0_4 : List (S80)) (l0_5 : List (S75)) (l0_6 : List (S33)) (a0_7 : ByteArray) : Option (Bool) := if a0_0 = 0 then ((impl_NodeOk.f k a0_0 a0_1 a0_2 a0_3 l0_4 l0_5 l0_6 a0_7).bind fun t349 => (if t349 = true then ((impl_FitsIn.f k a0_0 a0_1 a0_2 a0_3 l0_4 l0_5 l0_6 a0_7 ([] : List (S80))).bind fun t350 => (some t350)) else (some false))) else (some false)
theorem impl_TreeOk.calls (k : Nat) (a0_0 : Int) (a0_1 : ByteArray) (a0_2 : ByteArray) (a0_3 : ByteArray) (A0_4 : Option Addr) (c0_4 : Nat) (l0_4 : List (S80)) (A0_5 : Option Addr) (c0_5 : Nat) (l0_5 : List (S75)) (A0_6 : Option Addr) (c0_6 : Nat) (l0_6 : List (S33)) (a0_7 : ByteArray) (r : Bool) (w : World) (hr0_4 : Kd.C k80 w A0_4 l0_4.length l0_4) (hc0_4 : l0_4.length ≤ c0_4) (hr0_5 : Kd.C k75 w A0_5 l0_5.length l0_5) (hc0_5 : l0_5.length ≤ c0_5) (hr0_6 : Kd.C k33 w A0_6 l0_6.length l0_6) (hc0_6 : l0_6.length ≤ c0_6) (hTab : Tabs w) (h : impl_TreeOk.f k a0_0 a0_1 a0_2 a0_3 l0_4 l0_5 l0_6 a0_7 = some r) :
  Calls Tryz.prog 13 #[.agg #[.int .i64 a0_0, .string a0_1, .string a0_2, .string a0_3, .slice A0_4 l0_4.length c0_4, .slice A0_5 l0_5.length c0_5, .slice A0_6 l0_6.length c0_6, .string a0_7]] w fun e w' => e = .returned (.bool r) ∧ Below w.heap.size w w' := by
 have HT := Aside0.mk hTab
 clear hTab
 have hu33 := Tryz.underlying33
 have HR0_4 := Aside0.mk hr0_4
 have HC0_4 := Aside0.mk hc0_4
 clear hr0_4 hc0_4
 have HR0_5 := Aside0.mk hr0_5
 have HC0_5 := Aside0.mk hc0_5
 clear hr0_5 hc0_5
 have HR0_6 := Aside0.mk hr0_6
 have HC0_6 := Aside0.mk hc0_6
 clear hr0_6 hc0_6
 have HB := Aside0.mk (Below.refl w.heap.size w)
 have H : (if a0_0 = 0 then ((impl_NodeOk.f k a0_0 a0_1 a0_2 a0_3 l0_4 l0_5 l0_6 a0_7).bind fun t349 => (if t349 = true then ((impl_FitsIn.f k a0_0 a0_1 a0_2 a0_3 l0_4 l0_5 l0_6 a0_7 ([] : List (S80))).bind fun t350 => (some t350)) else (some false))) else (some false)) = some r := h
 clear h
 go_enter Tryz.func13, Tryz.ntmps13
 go_wp2_with (first | ((with_reducible refine gate_dst (N := 1) rfl ?_); refine box_event ?hg (N := 1) ?hd (cs := #[.int .i64 a0_0, .string a0_1, .string a0_2, .string a0_3, .slice A0_4 l0_4.length c0_4, .slice A0_5 l0_5.length c0_5, .slice A0_6 l0_6.length c0_6, .string a0_7]) (t := 33) ?hr ?_; (case hd => rfl); (case hg => rfl); (case hr => first | (go_simp; done) | (go_simp; rfl)); intro gb348 hg w2 hbox hb; have BK348 := Aside0.mk (hbox); have GW348 := Aside0.mk ((by rw [hg]; exact (below_size (by repeat (first|(with_reducible first|exact HB.out|apply zA|apply zN|apply zD) | exact HB.out))) : w.heap.size ≤ gb348)); have GE348 := Aside0.mk ((by rw [hg]; exact (below_size (by repeat (first|(with_reducible first|exact HB.out|apply zA|apply zN|apply zD) | exact HB.out))) : w.heap.size ≤ gb348)); replace HB := Aside0.mk (below_step (by repeat (first|(with_reducible first|exact HB.out|apply zA|apply zN|apply zD) | exact HB.out)) hb); clear hb hbox hg; obtain ⟨hcz3_0, hcz3_1, hcz3_2, hcz3_3, hcz3_4, hcz3_5, hcz3_6, hcz3_7⟩ := bc8 BK348.out; refine halt_ ?_; intro q_ hq_))
 obtain ⟨rfl⟩ := hq_
 by_cases c4 : a0_0 = 0
 ·rw [if_pos c4] at H
  have c4b0 : (a0_0 == 0) = true := beq_iff_eq.mpr c4
  have c4b1 : (a0_0 != 0) = false := bne_eq_false_iff_eq.mpr c4
  clear c4
  replace H := Option.bind_eq_some_iff.mp H
  obtain ⟨t349, A50, H⟩ := H
  try dsimp only at H
  have A5 := Aside0.mk A50
  clear A50
  obtain ⟨hcz6_0, hcz6_1, hcz6_2, hcz6_3, hcz6_4, hcz6_5, hcz6_6, hcz6_7⟩ := bc8 BK348.out
  go_wp2_with (first | (go_at_call 21; (with_reducible refine (impl_NodeOk.calls k a0_0 a0_1 a0_2 a0_3 _ _ l0_4 _ _ l0_5 _ _ l0_6 a0_7 t349 _ ?side1 ?side2 ?side3 ?side4 ?side5 ?side6 ?tabs A5.out).mono ?_); (case tabs => first | exact Tabs.below HT.out (by repeat (first|(with_reducible first|exact HB.out|apply zA|apply zN|apply zD | refine below_set ?_ GE348.out) | exact HB.out)) | (repeat (first | exact HT.out | (with_reducible refine Tabs.drewN ?_ _) | (with_reducible refine Tabs.drew ?_) | (with_reducible refine Tabs.alloc ?_ _)))); (case side1 => repeat (first | exact (Kd.C_below HR0_4.out HB.out) | (with_reducible refine Kd.C_alloc ?_ _) | (with_reducible refine Kd.C_drewN ?_ _) | (with_reducible refine Kd.C_drew ?_))); (case side2 => exact HC0_4.out); (case side3 => repeat (first | exact (Kd.C_below HR0_5.out HB.out) | (with_reducible refine Kd.C_alloc ?_ _) | (with_reducible refine Kd.C_drewN ?_ _) | (with_reducible refine Kd.C_drew ?_))); (case side4 => exact HC0_5.out); (case side5 => repeat (first | exact (Kd.C_below HR0_6.out HB.out) | (with_reducible refine Kd.C_alloc ?_ _) | (with_reducible refine Kd.C_drewN ?_ _) | (with_reducible refine Kd.C_drew ?_))); (case side6 => exact HC0_6.out); rintro e w7 ⟨rfl, hb⟩; replace BK348 := Aside0.mk (blk_below (g := gb348) (by (with_reducible repeat (first | refine bN ?_ _|refine bD ?_|refine bA ?_ _)); exact BK348.out) hb); replace HB := Aside0.mk (below_step (by repeat (first|(with_reducible first|exact HB.out|apply zA|apply zN|apply zD | refine below_set ?_ GE348.out) | exact HB.out)) hb); (try clear hb); (try clear hb2); (try clear hk); (try clear hi); refine halt_ ?_; intro q_ hq_))
  obtain ⟨rfl⟩ := hq_
  by_cases c8 : t349 = true
  ·subst c8
   rw [if_pos rfl] at H
   replace H := Option.bind_eq_some_iff.mp H
   obtain ⟨t350, A90, H⟩ := H
   try dsimp only at H
   have A9 := Aside0.mk A90
   clear A90
   obtain rfl := Option.some.inj H
   obtain ⟨hcz10_0, hcz10_1, hcz10_2, hcz10_3, hcz10_4, hcz10_5, hcz10_6, hcz10_7⟩ := bc8 BK348.out
   go_wp2_with (first | (go_at_call 23; (refine (impl_FitsIn.calls k a0_0 a0_1 a0_2 a0_3 _ _ l0_4 _ _ l0_5 _ _ l0_6 a0_7 _ _ ([] : List (S80)) t350 _ ?side1 ?side2 ?side3 ?side4 ?side5 ?side6 ?side7 ?side8 A9.out).mono ?_); (case side1 => repeat (first | exact (Kd.C_below HR0_4.out HB.out) | (with_reducible refine Kd.C_alloc ?_ _) | (with_reducible refine Kd.C_drewN ?_ _) | (with_reducible refine Kd.C_drew ?_))); (case side2 => exact HC0_4.out); (case side3 => repeat (first | exact (Kd.C_below HR0_5.out HB.out) | (with_reducible refine Kd.C_alloc ?_ _) | (with_reducible refine Kd.C_drewN ?_ _) | (with_reducible refine Kd.C_drew ?_))); (case side4 => exact HC0_5.out); (case side5 => repeat (first | exact (Kd.C_below HR0_6.out HB.out) | (with_reducible refine Kd.C_alloc ?_ _) | (with_reducible refine Kd.C_drewN ?_ _) | (with_reducible refine Kd.C_drew ?_))); (case side6 => exact HC0_6.out); (case side7 => exact Kd.C_nil _ _); (case side8 => exact Nat.le_refl _); rintro e w11 ⟨rfl, hb⟩; replace BK348 := Aside0.mk (blk_below (g := gb348) (by (with_reducible repeat (first | refine bN ?_ _|refine bD ?_|refine bA ?_ _)); exact BK348.out) hb); replace HB := Aside0.mk (below_step (by repeat (first|(with_reducible first|exact HB.out|apply zA|apply zN|apply zD | refine below_set ?_ GE348.out) | exact HB.out)) hb); (try clear hb); (try clear hb2); (try clear hk); (try clear hi)))
   go_ret
   exact ⟨rE, by repeat (first|(with_reducible first|exact HB.out|apply zA|apply zN|apply zD | refine below_set ?_ GE348.out) | exact HB.out)⟩
  ·replace c8 := Bool.eq_false_iff.mpr c8
   subst c8
   rw [if_neg (show ¬ (false = true) by decide)] at H
   obtain rfl := Option.some.inj H
   go_wp2
   go_ret
   exact ⟨rE, by repeat (first|(with_reducible first|exact HB.out|apply zA|apply zN|apply zD | refine below_set ?_ GE348.out) | exact HB.out)⟩
 ·rw [if_neg c4] at H
  have c4b0 : (a0_0 == 0) = false := beq_eq_false_iff_ne.mpr c4
  have c4b1 : (a0_0 != 0) = true := bne_iff_ne.mpr c4
  obtain rfl := Option.some.inj H
  go_wp2
  go_ret
  exact ⟨rE, by repeat (first|(with_reducible first|exact HB.out|apply zA|apply zN|apply zD | refine below_set ?_ GE348.out) | exact HB.out)⟩

/-! ### laws_eqDecl: function 77 -/
def laws_eqDecl.f (a0_0 : ByteArray) (a0_1 : ByteArray) (a1_0 : ByteArray) (a1_1 : ByteArray) : Option (Bool) := if a0_0.toList = a1_0.toList then (if a0_1.toList = a1_1.toList then (some true) else (some false)) else (some false)
theorem laws_eqDecl.calls (a0_0 : ByteArray) (a0_1 : ByteArray) (a1_0 : ByteArray) (a1_1 : ByteArray) (r_ : Bool) (w : World) (h : laws_eqDecl.f a0_0 a0_1 a1_0 a1_1 = some true) :
  Calls Tryz.prog 77 #[.agg #[.string a0_0, .string a0_1], .agg #[.string a1_0, .string a1_1]] w fun e w' => e = .returned (.bool true) ∧ Below w.heap.size w w' := by
 have hu80 := Tryz.underlying80
 have HB := Aside0.mk (Below.refl w.heap.size w)
 have H : (if a0_0.toList = a1_0.toList then (if a0_1.toList = a1_1.toList then (some true) else (some false)) else (some false)) = some true := h
 clear h
 go_enter Tryz.func77, Tryz.ntmps77
 go_wp2_with (first | ((with_reducible refine gate_dst (N := 2) rfl ?_); refine box_event ?hg (N := 2) ?hd (cs := #[.string a0_0, .string a0_1]) (t := 80) ?hr ?_; (case hd => rfl); (case hg => rfl); (case hr => first | (go_simp; done) | (go_simp; rfl)); intro gb351 hg w3 hbox hb; have BK351 := Aside0.mk (hbox); have GW351 := Aside0.mk ((by rw [hg]; exact (below_size (by repeat (first|(with_reducible first|exact HB.out|apply zA|apply zN|apply zD) | exact HB.out))) : w.heap.size ≤ gb351)); have GE351 := Aside0.mk ((by rw [hg]; exact (below_size (by repeat (first|(with_reducible first|exact HB.out|apply zA|apply zN|apply zD) | exact HB.out))) : w.heap.size ≤ gb351)); replace HB := Aside0.mk (below_step (by repeat (first|(with_reducible first|exact HB.out|apply zA|apply zN|apply zD) | exact HB.out)) hb); clear hb hbox hg) | ((with_reducible refine gate_dst (N := 3) rfl ?_); refine box_event ?hg (N := 3) ?hd (cs := #[.string a1_0, .string a1_1]) (t := 80) ?hr ?_; (case hd => rfl); (case hg => rfl); (case hr => first | (go_simp; done) | (go_simp; rfl)); intro gb352 hg w4 hbox hb; have BK352 := Aside0.mk (hbox); have GW352 := Aside0.mk ((by rw [hg]; exact (below_size (by repeat (first|(with_reducible first|exact HB.out|apply zA|apply zN|apply zD | refine below_set ?_ GE351.out) | exact HB.out))) : w.heap.size ≤ gb352)); have GE352 := Aside0.mk ((by rw [hg]; exact (below_size (by repeat (first|(with_reducible first|exact HB.out|apply zA|apply zN|apply zD | refine below_set ?_ GE351.out) | exact HB.out))) : w.heap.size ≤ gb352)); replace HB := Aside0.mk (below_step (by repeat (first|(with_reducible first|exact HB.out|apply zA|apply zN|apply zD | refine below_set ?_ GE351.out) | exact HB.out)) hb); have NB351_352 := Aside0.mk ((by rw [hg]; exact Nat.ne_of_lt (blk_lt (g := gb351) (by (with_reducible repeat (first | refine bN ?_ _|refine bD ?_|refine bA ?_ _)); exact BK351.out)) : gb351 ≠ gb352)); have NB352_351 := Aside0.mk ((by rw [hg]; exact Nat.ne_of_gt (blk_lt (g := gb351) (by (with_reducible repeat (first | refine bN ?_ _|refine bD ?_|refine bA ?_ _)); exact BK351.out)) : gb352 ≠ gb351)); replace BK351 := Aside0.mk (blk_below (g := gb351) (by (with_reducible repeat (first | refine bN ?_ _|refine bD ?_|refine bA ?_ _)); exact BK351.out) hb); clear hb hbox hg; have hnb5 := NB351_352.out; have hnc5 := NB352_351.out; obtain ⟨hcz6_0, hcz6_1⟩ := bc2 BK351.out; obtain ⟨hcz7_0, hcz7_1⟩ := bc2 BK352.out; refine halt_ ?_; intro q_ hq_))
 obtain ⟨rfl⟩ := hq_
 by_cases c8 : a0_0.toList = a1_0.toList
 ·rw [if_pos c8] at H
  have c8b0 : (a0_0.toList == a1_0.toList) = true := beq_iff_eq.mpr c8
  have c8b1 : (a0_0.toList != a1_0.toList) = false := bne_eq_false_iff_eq.mpr c8
  clear c8
  by_cases c9 : a0_1.toList = a1_1.toList
  ·rw [if_pos c9] at H
   have c9b0 : (a0_1.toList == a1_1.toList) = true := beq_iff_eq.mpr c9
   have c9b1 : (a0_1.toList != a1_1.toList) = false := bne_eq_false_iff_eq.mpr c9
   clear c9
   first | obtain rfl := Option.some.inj H | clear H
   have hnb10 := NB351_352.out
   have hnc10 := NB352_351.out
   obtain ⟨hcz11_0, hcz11_1⟩ := bc2 BK351.out
   obtain ⟨hcz12_0, hcz12_1⟩ := bc2 BK352.out
   go_wp2
   go_ret
   exact ⟨rE, by repeat (first|(with_reducible first|exact HB.out|apply zA|apply zN|apply zD | refine below_set ?_ GE351.out | refine below_set ?_ GE352.out) | exact HB.out)⟩
  ·rw [if_neg c9] at H
   exact absurd H (by simp)
 ·rw [if_neg c8] at H
  exact absurd H (by simp)
/-! ### laws_eqDeclS: function 45 -/
def laws_eqDeclS.l0 : Nat → List (S80) → List (S80) → Int → Option (Bool)
 | 0, _, _, _ => none
 | k + 1, x0, x1, x5 => if x5 < (x0.length : Int) then (if 0 ≤ x5 then (if x5 < (x1.length : Int) then ((laws_eqDecl.f ((rd_T80 x0 x5).f0) ((rd_T80 x0 x5).f1) ((rd_T80 x1 x5).f0) ((rd_T80 x1 x5).f1)).bind fun t355 => (if t355 = true then (laws_eqDeclS.l0 k x0 x1 (wrap64 (x5 + 1))) else (some false))) else (none)) else (none)) else (some true)
def laws_eqDeclS.f (k : Nat) (l0 : List (S80)) (l1 : List (S80)) : Option (Bool) := if (l0.length : Int) = (l1.length : Int) then (laws_eqDeclS.l0 k l0 l1 0) else (some false)
theorem laws_eqDeclS.mono_l : ∀ k, (∀ y0 y1 y2, LeO (laws_eqDeclS.l0 k y0 y1 y2) (laws_eqDeclS.l0 (k + 1) y0 y1 y2))
 | 0 => fun _ _ _ r h => by simp [laws_eqDeclS.l0] at h
 | k + 1 => by
  have ih0 := laws_eqDeclS.mono_l k
  ·intro y0 y1 y2
   unfold laws_eqDeclS.l0
   repeat' first
   | (with_reducible exact ih0 _ _ _)
   | (with_reducible exact LeO.refl _)
   | (with_reducible exact LeO.none _)
   | (with_reducible refine LeO.ite ?_ ?_)
   | (with_reducible refine LeO.bind ?_ (fun _ => ?_))
   | exact ih0 _ _ _
   | exact LeO.none _
   | refine LeO.ite ?_ ?_
   | refine LeO.bind ?_ (fun _ => ?_)
theorem laws_eqDeclS.mono : ∀ a0 a1 k, LeO (laws_eqDeclS.f k a0 a1) (laws_eqDeclS.f (k + 1) a0 a1) := by
 intro a0 a1 k
 have ih0 := laws_eqDeclS.mono_l k
 unfold laws_eqDeclS.f
 repeat' first
   | (with_reducible exact ih0 _ _ _)
   | (with_reducible exact LeO.refl _)
   | (with_reducible exact LeO.none _)
   | (with_reducible refine LeO.ite ?_ ?_)
   | (with_reducible refine LeO.bind ?_ (fun _ => ?_))
   | exact ih0 _ _ _
   | exact LeO.none _
   | refine LeO.ite ?_ ?_
   | refine LeO.bind ?_ (fun _ => ?_)
def laws_eqDeclS.T6 : Bool × List (List Nat × List Nat) := (true, [([], []), ([], []), ([0, 1], [0, 1]), ([2], [2]), ([], []), ([], []), ([4, 5], [4, 5]), ([6], [6]), ([3, 7], [3, 7]), ([8], [8])])
def laws_eqDeclS.B6 : List Nat := [0, 0, 3, 7, 0, 0, 48, 112, 255, 511]
theorem laws_eqDeclS.tab6 : rtab .any (opsOf Tryz.f45 6) = laws_eqDeclS.T6 := by kernel_rfl
theorem laws_eqDeclS.bits6 : waitsOk laws_eqDeclS.T6.2 laws_eqDeclS.B6 = true := by kernel_rfl
theorem laws_eqDeclS.calls (k : Nat) (A0 : Option Addr) (c0 : Nat) (l0 : List (S80)) (A1 : Option Addr) (c1 : Nat) (l1 : List (S80)) (r_ : Bool) (w : World) (hr0 : Kd.C k80 w A0 l0.length l0) (hc0 : l0.length ≤ c0) (hr1 : Kd.C k80 w A1 l1.length l1) (hc1 : l1.length ≤ c1) (h : laws_eqDeclS.f k l0 l1 = some true) :
  Calls Tryz.prog 45 #[.slice A0 l0.length c0, .slice A1 l1.length c1] w fun e w' => e = .returned (.bool true) ∧ Below w.heap.size w w' := by
 have hu80 := Tryz.underlying80
 have HR0 := Aside0.mk hr0
 have HC0 := Aside0.mk hc0
 clear hr0 hc0
 have HR1 := Aside0.mk hr1
 have HC1 := Aside0.mk hc1
 clear hr1 hc1
 have HB := Aside0.mk (Below.refl w.heap.size w)
 have H : (if (l0.length : Int) = (l1.length : Int) then (laws_eqDeclS.l0 k l0 l1 0) else (some false)) = some true := h
 clear h
 by_cases c3 : (l0.length : Int) = (l1.length : Int)
 ·rw [if_pos c3] at H
  have c3b0 : ((l0.length : Int) == (l1.length : Int)) = true := beq_iff_eq.mpr c3
  have c3b1 : ((l0.length : Int) != (l1.length : Int)) = false := bne_eq_false_iff_eq.mpr c3
  have c3b2 : (l0.length == l1.length) = true := by first | simpa using c3 | (simp at c3 ⊢; omega)
  clear c3
  have H' := Aside0.mk H
  clear H
  go_enter Tryz.func45, Tryz.ntmps45
  go_wp2
  go_loopg [5] k (fun kq v5 w' => ∃ (x5_1 : Int), v5 = .int .i64 x5_1 ∧ Aside0 (laws_eqDeclS.l0 kq l0 l1 x5_1 = some true) ∧ Aside0 (kq ≤ k) ∧ Aside0 (Below w.heap.size w w'))
  case atStart => exact ⟨(0), rG, H', ⟨Nat.le_refl _⟩, ⟨by repeat (first|(with_reducible first|exact HB.out|apply zA|apply zN|apply zD) | exact HB.out)⟩⟩
  case round =>
   clear H'
   try clear c1
   try clear p2
   try clear c3
   try clear c3b0
   try clear c3b1
   try clear c3b2
   try clear p2
   obtain ⟨x5_1, rfl, HA, HK1, HB⟩ := hrel
   cases gk with
   | zero => exact absurd HA.out (by simp [laws_eqDeclS.l0])
   | succ k1 =>
    have H := HA.out
    clear HA
    simp only [laws_eqDeclS.l0] at H
    by_cases c4 : x5_1 < (l0.length : Int)
    ·rw [if_pos c4] at H
     have c4b0 : decide (x5_1 < (l0.length : Int)) = true := decide_eq_true c4
     clear c4
     by_cases c5 : 0 ≤ x5_1
     ·rw [if_pos c5] at H
      have c5b0 : decide (0 ≤ x5_1) = true := decide_eq_true c5
      clear c5
      by_cases c6 : x5_1 < (l1.length : Int)
      ·rw [if_pos c6] at H
       have c6b0 : decide (x5_1 < (l1.length : Int)) = true := decide_eq_true c6
       clear c6
       replace H := Option.bind_eq_some_iff.mp H
       obtain ⟨t355, A70, H⟩ := H
       try dsimp only at H
       have A7 := Aside0.mk A70
       clear A70
       by_cases c8 : t355 = true
       ·subst c8
        rw [if_pos rfl] at H
        have H' := Aside0.mk H
        clear H
        try go_wp2
        replace HB := Aside0.mk (below_drew1 HB.out)
        have p353 : 0 ≤ (x5_1 : Int) := odt
        have q353 : x5_1 < (l0.length : Int) := odt
        obtain ⟨ad353, e353, hx353_0, hx353_1⟩ := at_T80 HR0.out x5_1 p353 q353
        have hw353_1 := hx353_1
        have hw353_0 := hx353_0
        cases e353
        replace hx353_0 := pw_cell_below HB.out hx353_0
        replace hx353_1 := pw_cell_below HB.out hx353_1
        replace p353 := eq_true p353
        replace q353 := eq_true q353
        have p354 : 0 ≤ (x5_1 : Int) := odt
        have q354 : x5_1 < (l1.length : Int) := odt
        obtain ⟨ad354, e354, hx354_0, hx354_1⟩ := at_T80 HR1.out x5_1 p354 q354
        have hw354_1 := hx354_1
        have hw354_0 := hx354_0
        cases e354
        replace hx354_0 := pw_cell_below HB.out hx354_0
        replace hx354_1 := pw_cell_below HB.out hx354_1
        replace p354 := eq_true p354
        replace q354 := eq_true q354
        refine start_ (n := 10) (S := fun w' => w'.cell? (ad353.add ((x5_1).toNat * 2)) = some (.string ((rd_T80 l0 x5_1).f0)) ∧ w'.cell? ⟨(ad353.add ((x5_1).toNat * 2)).block, (ad353.add ((x5_1).toNat * 2)).off + 1, none⟩ = some (.string ((rd_T80 l0 x5_1).f1)) ∧ w'.cell? (ad354.add ((x5_1).toNat * 2)) = some (.string ((rd_T80 l1 x5_1).f0)) ∧ w'.cell? ⟨(ad354.add ((x5_1).toNat * 2)).block, (ad354.add ((x5_1).toNat * 2)).off + 1, none⟩ = some (.string ((rd_T80 l1 x5_1).f1))) (ds := []) #[false, false, false, false, false, false, false, false, false, false] (by kernel_rfl) rfl rfl ⟨(pw_cell_below HB.out hw353_0), (pw_cell_below HB.out hw353_1), (pw_cell_below HB.out hw354_0), (pw_cell_below HB.out hw354_1)⟩ (fun hHeld => ?_); refine with_tabW laws_eqDeclS.tab6 laws_eqDeclS.bits6 (fun HT_ HW_ => ?_)
        generalize wr.drew = w9 at HB hx353_0 hx353_1 hx354_0 hx354_1 hHeld ⊢
        refine pure_ (i := 0) (N := some 17) (v := ?_) (a' := ?_) (tf 1 9) rfl rfl (any_of HT_.out (by kernel_rfl)) (fun _ _ _ h => h) (Or.inl ⟨by rfl, ?_⟩) ?_ ?_
        rotate_left; · intro w'; go_simp; with_reducible rfl
        rotate_left; · simp only [Act.put, sT, sZ, sS, i64_w, i32_w]; rfl
        refine pure_ (i := 1) (N := some 18) (v := ?_) (a' := ?_) (tf 2 8) rfl rfl (any_of HT_.out (by kernel_rfl)) (fun _ _ _ h => h) (Or.inl ⟨by rfl, ?_⟩) ?_ ?_
        rotate_left; · intro w'; go_simp; with_reducible rfl
        rotate_left; · simp only [Act.put, sT, sZ, sS, i64_w, i32_w]; rfl
        refine pure_ (i := 2) (N := some 19) (v := ?_) (a' := ?_) (tf 3 7) rfl rfl (any_of HT_.out (by kernel_rfl)) (fun _ _ _ h => h) (Or.inl ⟨by rfl, ?_⟩) ?_ ?_
        rotate_left; · intro w'; go_simp; with_reducible rfl
        rotate_left; · simp only [Act.put, sT, sZ, sS, i64_w, i32_w]; rfl
        refine pure_ (i := 4) (N := some 21) (v := ?_) (a' := ?_) #[true, true, true, false, true, false, false, false, false, false] rfl rfl (any_of HT_.out (by kernel_rfl)) (fun _ _ _ h => h) (Or.inl ⟨by rfl, ?_⟩) ?_ ?_
        rotate_left; · intro w'; go_simp; with_reducible rfl
        rotate_left; · simp only [Act.put, sT, sZ, sS, i64_w, i32_w]; rfl
        refine pure_ (i := 5) (N := some 22) (v := ?_) (a' := ?_) #[true, true, true, false, true, true, false, false, false, false] rfl rfl (any_of HT_.out (by kernel_rfl)) (fun _ _ _ h => h) (Or.inl ⟨by rfl, ?_⟩) ?_ ?_
        rotate_left; · intro w'; go_simp; with_reducible rfl
        rotate_left; · simp only [Act.put, sT, sZ, sS, i64_w, i32_w]; rfl
        refine pure_ (i := 6) (N := some 23) (v := ?_) (a' := ?_) #[true, true, true, false, true, true, true, false, false, false] rfl rfl (any_of HT_.out (by kernel_rfl)) (fun _ _ _ h => h) (Or.inl ⟨by rfl, ?_⟩) ?_ ?_
        rotate_left; · intro w'; go_simp; with_reducible rfl
        rotate_left; · simp only [Act.put, sT, sZ, sS, i64_w, i32_w]; rfl
        refine take_ (i := 3) (N := some 20) (v := ?_) (a' := ?_) (tf 7 3) rfl rfl (take_ofW HT_.out HW_.out (by kernel_rfl)) (fun _ _ _ h => h) (Or.inl ⟨by rfl, ?_⟩) hHeld ?_ ?_
        rotate_left
        ·rintro w' ⟨s0, s1, s2, s3⟩
         go_simp
         with_reducible rfl
        rotate_left
        ·simp only [Act.put, sT, sZ, sS, i64_w, i32_w]
         rfl
        refine take_ (i := 7) (N := some 24) (v := ?_) (a' := ?_) (tf 8 2) rfl rfl (take_ofW HT_.out HW_.out (by kernel_rfl)) (fun _ _ _ h => h) (Or.inl ⟨by rfl, ?_⟩) hHeld ?_ ?_
        rotate_left
        ·rintro w' ⟨s0, s1, s2, s3⟩
         go_simp
         with_reducible rfl
        rotate_left
        ·simp only [Act.put, sT, sZ, sS, i64_w, i32_w]
         rfl
        refine one_ (i := 8) (N := some 25) (tf 9 1) rfl rfl (one_of HT_.out (by kernel_rfl)) (by decide) (fun K hK => ?_)
        refine goes_ Tryz.func77 (by kernel_rfl) rfl #[.agg #[.string ((rd_T80 l0 x5_1).f0), .string ((rd_T80 l0 x5_1).f1)], .agg #[.string ((rd_T80 l1 x5_1).f0), .string ((rd_T80 l1 x5_1).f1)]] (by rfl) rfl rfl (by (try simp only [List.map_toArray, List.map_cons, List.map_nil]); first | done | rfl | (simp only [List.length_drop, List.length_take]; rfl)) ?_
        with_reducible refine (laws_eqDecl.calls ((rd_T80 l0 x5_1).f0) ((rd_T80 l0 x5_1).f1) ((rd_T80 l1 x5_1).f0) ((rd_T80 l1 x5_1).f1) true _ A7.out).mono ?_
        rintro e w10 ⟨rfl, hb⟩
        refine ⟨_, rfl, ?_⟩
        replace HB := Aside0.mk (below_step (by repeat (first|(with_reducible first|exact HB.out|apply zA|apply zN|apply zD) | exact HB.out)) hb)
        (try clear hb)
        (try clear hb2)
        (try clear hk)
        (try clear hi)
        refine hK.out _ _ ⟨(pw_cell_below HB.out hw353_0), (pw_cell_below HB.out hw353_1), (pw_cell_below HB.out hw354_0), (pw_cell_below HB.out hw354_1)⟩ (fun hHeld => ?_)
        clear hK K
        refine norm_ (a' := ?_) ?_ ?_
        rotate_left
        ·show Act.put _ (some 25) _ = _
         simp only [Act.put, sT, sZ, sS, i64_w, i32_w]
         rfl
        refine pure_ (i := 9) (N := some 26) (v := ?_) (a' := ?_) (tf 10 0) rfl rfl (any_of HT_.out (by kernel_rfl)) (fun _ _ _ h => h) (Or.inl ⟨by rfl, ?_⟩) ?_ ?_
        rotate_left; · intro w'; go_simp; with_reducible rfl
        rotate_left; · simp only [Act.put, sT, sZ, sS, i64_w, i32_w]; rfl
        refine done_ (done_of HT_.out (by kernel_rfl)) ?_
        try go_wp2
        go_roundg k1
        case measure => have := HK1.out; omega
        case rel => exact ⟨(wrap64 (x5_1 + 1)), rG, H', ⟨by have := HK1.out; omega⟩, ⟨by repeat (first|(with_reducible first|exact HB.out|apply zA|apply zN|apply zD) | exact HB.out)⟩⟩
       ·rw [if_neg c8] at H
        exact absurd H (by simp)
      ·rw [if_neg c6] at H
       exact absurd H (by simp)
     ·rw [if_neg c5] at H
      exact absurd H (by simp)
    ·rw [if_neg c4] at H
     have c4b0 : decide (x5_1 < (l0.length : Int)) = false := decide_eq_false c4
     clear c4
     first | obtain rfl := Option.some.inj H | clear H
     go_wp2
     go_ret
     exact ⟨rE, by repeat (first|(with_reducible first|exact HB.out|apply zA|apply zN|apply zD) | exact HB.out)⟩
 ·rw [if_neg c3] at H
  exact absurd H (by simp)
/-! ### laws_eqAttr: function 78 -/
def laws_eqAttr.f (a0_0 : ByteArray) (a0_1 : ByteArray) (a0_2 : ByteArray) (a0_3 : ByteArray) (a1_0 : ByteArray) (a1_1 : ByteArray) (a1_2 : ByteArray) (a1_3 : ByteArray) : Option (Bool) := if a0_0.toList = a1_0.toList then (if a0_1.toList = a1_1.toList then (if a0_2.toList = a1_2.toList then (if a0_3.toList = a1_3.toList then (some true) else (some false)) else (some false)) else (some false)) else (some false)
theorem laws_eqAttr.calls (a0_0 : ByteArray) (a0_1 : ByteArray) (a0_2 : ByteArray) (a0_3 : ByteArray) (a1_0 : ByteArray) (a1_1 : ByteArray) (a1_2 : ByteArray) (a1_3 : ByteArray) (r_ : Bool) (w : World) (h : laws_eqAttr.f a0_0 a0_1 a0_2 a0_3 a1_0 a1_1 a1_2 a1_3 = some true) :
  Calls Tryz.prog 78 #[.agg #[.string a0_0, .string a0_1, .string a0_2, .string a0_3], .agg #[.string a1_0, .string a1_1, .string a1_2, .string a1_3]] w fun e w' => e = .returned (.bool true) ∧ Below w.heap.size w w' := by
 have hu75 := Tryz.underlying75
 have HB := Aside0.mk (Below.refl w.heap.size w)
 have H : (if a0_0.toList = a1_0.toList then (if a0_1.toList = a1_1.toList then (if a0_2.toList = a1_2.toList then (if a0_3.toList = a1_3.toList then (some true) else (some false)) else (some false)) else (some false)) else (some false)) = some true := h
 clear h
 go_enter Tryz.func78, Tryz.ntmps78
 go_wp2_with (first | ((with_reducible refine gate_dst (N := 2) rfl ?_); refine box_event ?hg (N := 2) ?hd (cs := #[.string a0_0, .string a0_1, .string a0_2, .string a0_3]) (t := 75) ?hr ?_; (case hd => rfl); (case hg => rfl); (case hr => first | (go_simp; done) | (go_simp; rfl)); intro gb356 hg w3 hbox hb; have BK356 := Aside0.mk (hbox); have GW356 := Aside0.mk ((by rw [hg]; exact (below_size (by repeat (first|(with_reducible first|exact HB.out|apply zA|apply zN|apply zD) | exact HB.out))) : w.heap.size ≤ gb356)); have GE356 := Aside0.mk ((by rw [hg]; exact (below_size (by repeat (first|(with_reducible first|exact HB.out|apply zA|apply zN|apply zD) | exact HB.out))) : w.heap.size ≤ gb356)); replace HB := Aside0.mk (below_step (by repeat (first|(with_reducible first|exact HB.out|apply zA|apply zN|apply zD) | exact HB.out)) hb); clear hb hbox hg) | ((with_reducible refine gate_dst (N := 3) rfl ?_); refine box_event ?hg (N := 3) ?hd (cs := #[.string a1_0, .string a1_1, .string a1_2, .string a1_3]) (t := 75) ?hr ?_; (case hd => rfl); (case hg => rfl); (case hr => first | (go_simp; done) | (go_simp; rfl)); intro gb357 hg w4 hbox hb; have BK357 := Aside0.mk (hbox); have GW357 := Aside0.mk ((by rw [hg]; exact (below_size (by repeat (first|(with_reducible first|exact HB.out|apply zA|apply zN|apply zD | refine below_set ?_ GE356.out) | exact HB.out))) : w.heap.size ≤ gb357)); have GE357 := Aside0.mk ((by rw [hg]; exact (below_size (by repeat (first|(with_reducible first|exact HB.out|apply zA|apply zN|apply zD | refine below_set ?_ GE356.out) | exact HB.out))) : w.heap.size ≤ gb357)); replace HB := Aside0.mk (below_step (by repeat (first|(with_reducible first|exact HB.out|apply zA|apply zN|apply zD | refine below_set ?_ GE356.out) | exact HB.out)) hb); have NB356_357 := Aside0.mk ((by rw [hg]; exact Nat.ne_of_lt (blk_lt (g := gb356) (by (with_reducible repeat (first | refine bN ?_ _|refine bD ?_|refine bA ?_ _)); exact BK356.out)) : gb356 ≠ gb357)); have NB357_356 := Aside0.mk ((by rw [hg]; exact Nat.ne_of_gt (blk_lt (g := gb356) (by (with_reducible repeat (first | refine bN ?_ _|refine bD ?_|refine bA ?_ _)); exact BK356.out)) : gb357 ≠ gb356)); replace BK356 := Aside0.mk (blk_below (g := gb356) (by (with_reducible repeat (first | refine bN ?_ _|refine bD ?_|refine bA ?_ _)); exact BK356.out) hb); clear hb hbox hg; have hnb5 := NB356_357.out; have hnc5 := NB357_356.out; obtain ⟨hcz6_0, hcz6_1, hcz6_2, hcz6_3⟩ := bc4 BK356.out; obtain ⟨hcz7_0, hcz7_1, hcz7_2, hcz7_3⟩ := bc4 BK357.out; refine halt_ ?_; intro q_ hq_))
 obtain ⟨rfl⟩ := hq_
 by_cases c8 : a0_0.toList = a1_0.toList
 ·rw [if_pos c8] at H
  have c8b0 : (a0_0.toList == a1_0.toList) = true := beq_iff_eq.mpr c8
  have c8b1 : (a0_0.toList != a1_0.toList) = false := bne_eq_false_iff_eq.mpr c8
  clear c8
  by_cases c9 : a0_1.toList = a1_1.toList
  ·rw [if_pos c9] at H
   have c9b0 : (a0_1.toList == a1_1.toList) = true := beq_iff_eq.mpr c9
   have c9b1 : (a0_1.toList != a1_1.toList) = false := bne_eq_false_iff_eq.mpr c9
   clear c9
   by_cases c10 : a0_2.toList = a1_2.toList
   ·rw [if_pos c10] at H
    have c10b0 : (a0_2.toList == a1_2.toList) = true := beq_iff_eq.mpr c10
    have c10b1 : (a0_2.toList != a1_2.toList) = false := bne_eq_false_iff_eq.mpr c10
    clear c10
    by_cases c11 : a0_3.toList = a1_3.toList
    ·rw [if_pos c11] at H
     have c11b0 : (a0_3.toList == a1_3.toList) = true := beq_iff_eq.mpr c11
     have c11b1 : (a0_3.toList != a1_3.toList) = false := bne_eq_false_iff_eq.mpr c11
     clear c11
     first | obtain rfl := Option.some.inj H | clear H
     have hnb12 := NB356_357.out
     have hnc12 := NB357_356.out
     obtain ⟨hcz13_0, hcz13_1, hcz13_2, hcz13_3⟩ := bc4 BK356.out
     obtain ⟨hcz14_0, hcz14_1, hcz14_2, hcz14_3⟩ := bc4 BK357.out
     go_wp2
     go_ret
     exact ⟨rE, by repeat (first|(with_reducible first|exact HB.out|apply zA|apply zN|apply zD | refine below_set ?_ GE356.out | refine below_set ?_ GE357.out) | exact HB.out)⟩
    ·rw [if_neg c11] at H
     exact absurd H (by simp)
   ·rw [if_neg c10] at H
    exact absurd H (by simp)
  ·rw [if_neg c9] at H
   exact absurd H (by simp)
 ·rw [if_neg c8] at H
  exact absurd H (by simp)
end Go.Proofs.YtlfjdaoibjjakaaGreatDoor.PT
