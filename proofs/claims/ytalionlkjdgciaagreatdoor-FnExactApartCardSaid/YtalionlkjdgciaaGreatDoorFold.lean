/- strings.EqualFold where the second text is of the letters x, m, l: at every first text.
Conditions: none. -/
import Derived.Test.YtalionlkjdgciaaGreatDoorProg
import Derived.Test.YtalionlkjdgciaaGreatDoorTabs
import Derived.Test.YtalionlkjdgciaaGreatDoorShort
import Derived.Test.YtalionlkjdgciaaGreatDoorShelf
import Derived.ScopeJumps
import Derived.WalkMore
import Derived.Shelf.Abstract
import Derived.Lib.OthersKept
import Derived.Lib.TrimU
import Derived.Lib.TrimUEq
import Derived.Lib.Fold
import Derived.Deep.LoopGhost
import Derived.Lib.Walk
import Derived.Laws.Strings3
import Derived.Lib.Strings
namespace Go.Proofs.YtalionlkjdgciaaGreatDoor.Fold
open Go.RowKit Go.Proofs.YtalionlkjdgciaaGreatDoorW.PrintWords Go.Proofs.YtalionlkjdgciaaGreatDoorW.PrintLast Go.Proofs.YtalionlkjdgciaaGreatDoorW.PrintMore
set_option linter.unusedVariables false
/-- The same letter, small or great. -/
def oth (c : Int) : Int := if c < 97 then c + 32 else c - 32
set_option maxHeartbeats 1000000 in
set_option maxRecDepth 100000 in
theorem simpleFold (c : Int) (hc : c = 120 ∨ c = 109 ∨ c = 108 ∨ c = 88 ∨ c = 77 ∨ c = 76) (w : World) (hF : FoldCell w) :
    Calls Tryz.prog 159 #[.int .i32 c] w fun e w' => e = .returned (.int .i32 (oth c)) ∧ Below w.heap.size w w' := by
  obtain ⟨h1, h2, h3, h4, h5, h6⟩ := hF
  rcases hc with rfl | rfl | rfl | rfl | rfl | rfl
  all_goals
    go_enter Tryz.func159, Tryz.ntmps159
    go_wp2
    go_ret
    exact ⟨by first | rfl | decide, Below.refl _ _⟩

theorem extract_first {s : ByteArray} {i : Nat} {x : UInt8} (h : s.data.toList[i]? = some x) : (s.extract i s.size).data.toList[0]? = some x := by
  have hi := (List.getElem?_eq_some_iff.1 h).1
  rw [ByteArray.data_extract, Array.toList_extract]
  have hz : s.size = s.data.toList.length := Lib.size_eq s
  simp [List.extract, List.getElem?_take, List.getElem?_drop, h]
  omega
theorem decode_ge {S : ByteArray} {x : UInt8} (h : S.data.toList[0]? = some x) (hx : 128 ≤ x.toNat) : 128 ≤ (Utf8.decode S 0).1 := by
  rw [Lib.decode_N]
  have h0 : S.data.toList.getD 0 0 = x := by rw [List.getD_eq_getElem?_getD, h]; rfl
  rw [h0]
  unfold Lib.decodeN
  rw [if_neg (by omega)]
  repeat' split
  all_goals (simp only; omega)
theorem scope_fwd {P : Program} {c rest : Code} (l : Nat) {Q : Exit → Act → World → Prop} {a : Act} {w : World} (hf : findLabel c l = some rest) (first : c.wp P (Exit.jump l (fun a w => rest.wp P (Exit.noGoto Q) a w) Q) a w) : (Code.scope c).wp P Q a w :=
  wp_scope_jumps l (fun a w => rest.wp P (Exit.noGoto Q) a w) (fun _ _ => 0) hf first (fun _ _ h => wp_mono h (fun e _ _ q => by cases e <;> first | exact q | exact q.elim))
set_option maxHeartbeats 8000000 in
set_option maxRecDepth 1000000 in
open Go.Lib in
theorem equalFold (s t : ByteArray) (w : World) (hs : s.size < 4294967281) (ht3 : t.size ≤ 3)
    (hat : ∀ (j : Nat) b, t.data.toList[j]? = some b → b.toNat = 120 ∨ b.toNat = 109 ∨ b.toNat = 108) (hF : FoldCell w) :
    Calls Tryz.prog 139 #[.string s, .string t] w fun e w' => e = .returned (.bool (Lib.equalFold s.data.toList t.data.toList)) ∧ Below w.heap.size w w' := by
  have HT : Aside (∀ (j : Nat) b, t.data.toList[j]? = some b → b.toNat = 120 ∨ b.toNat = 109 ∨ b.toNat = 108) := hat
  have HFT := Aside0.mk hF
  clear hat hF
  obtain ⟨M, hM⟩ : ∃ M : Nat, min (s.size : Int) (t.size : Int) = (M : Int) := ⟨min s.size t.size, by omega⟩
  have hMs : M ≤ s.size := by omega
  have hMt : M ≤ t.size := by omega
  have hMe : M = s.size ∨ M = t.size := by omega
  go_enter Tryz.func139, Tryz.ntmps139
  go_wp2
  refine scope_fwd 0 rfl ?_
  go_wp2
  go_loopg [5] M (fun g s5 wx => w = wx ∧ ∃ i : Nat, i + g = M ∧ s5 = .int .i64 i ∧ Lib.equalFold (s.data.toList.drop i) (t.data.toList.drop i) = Lib.equalFold s.data.toList t.data.toList)
  case atStart => exact ⟨rfl, 0, by omega, rfl, rfl⟩
  case round =>
    obtain ⟨rfl, i, hig, rfl, hinv⟩ := hrel
    have HI : Aside (Lib.equalFold (s.data.toList.drop i) (t.data.toList.drop i) = Lib.equalFold s.data.toList t.data.toList) := hinv
    clear hinv hM
    cases gk with
    | zero =>
      have hiM : ¬ ((i : Int) < (M : Int)) := by omega
      obtain rfl : i = M := by omega
      have hE : Lib.equalFold s.data.toList t.data.toList = decide (s.size = t.size) := by
        rw [← HI.out, Lib.equalFold_end _ _ (by
          rcases hMe with h | h
          · exact Or.inl (List.drop_eq_nil_of_le (by rw [← Lib.size_eq]; omega))
          · exact Or.inr (List.drop_eq_nil_of_le (by rw [← Lib.size_eq]; omega))), List.length_drop, List.length_drop, ← Lib.size_eq, ← Lib.size_eq]
        exact decide_eq_decide.2 (by omega)
      by_cases hst : s.size = t.size
      · have hb : ((s.size : Int) == (t.size : Int)) = true := beq_iff_eq.2 (by omega)
        go_wp2
        simp only [Exit.jump]
        go_ret
        exact ⟨by rw [hE]; simp [hst], Below.refl _ _⟩
      · have hb : ((s.size : Int) == (t.size : Int)) = false := beq_eq_false_iff_ne.2 (by omega)
        go_wp2
        simp only [Exit.jump]
        go_ret
        exact ⟨by rw [hE]; simp [hst], Below.refl _ _⟩
    | succ g =>
      have hiM : (i : Int) < (M : Int) := by omega
      have hisz : (i : Int) < (s.size : Int) := by omega
      have hitz : (i : Int) < (t.size : Int) := by omega
      obtain ⟨x, hx⟩ : ∃ x : UInt8, s[i]'(by omega) = x := ⟨_, rfl⟩
      obtain ⟨y, hy⟩ : ∃ y : UInt8, t[i]'(by omega) = y := ⟨_, rfl⟩
      have hxl : s.data.toList[i]? = some x := by rw [← hx]; exact Lib.data_getElem? s i (by omega)
      have hyl : t.data.toList[i]? = some y := by rw [← hy]; exact Lib.data_getElem? t i (by omega)
      have hy3 := HT.out i y hyl
      have hx256 : x.toNat < 256 := x.toNat_lt
      have Hx : Aside (s.data.toList[i]? = some x ∧ t.data.toList[i]? = some y) := ⟨hxl, hyl⟩
      clear hxl hyl
      by_cases hx128 : x.toNat < 128
      · have hor : bits .or .u8 (x.toNat : Int) (y.toNat : Int) = ((x.toNat ||| y.toNat : Nat) : Int) := u8_or_nat _ _ (by omega) (by omega)
        have hor128 : ¬ ((128 : Int) ≤ ((x.toNat ||| y.toNat : Nat) : Int)) := by have := Nat.or_lt_two_pow (n := 7) hx128 (show y.toNat < 2 ^ 7 by omega); omega
        go_wp2
        all_goals (try simp only [beq_iff_eq, beq_eq_false_iff_ne, ne_eq] at *)
        all_goals first
          | (go_roundg g
             case measure => omega
             case rel => exact ⟨rfl, i + 1, by omega, by first | rfl | simp, by rw [← HI.out, Lib.drop_at Hx.out.1, Lib.drop_at Hx.out.2, Lib.equalFold_yes _ _ _ _ (decide_eq_true (by omega))]⟩)
          | (simp only [Exit.jump]
             go_ret
             refine ⟨?_, Below.refl _ _⟩
             rw [← HI.out, Lib.drop_at Hx.out.1, Lib.drop_at Hx.out.2, Lib.equalFold_no _ _ _ _ (decide_eq_false (by omega))]
             rfl)
      · have hor : bits .or .u8 (x.toNat : Int) (y.toNat : Int) = ((x.toNat ||| y.toNat : Nat) : Int) := u8_or_nat _ _ (by omega) (by omega)
        have hor128 : ((128 : Int) ≤ ((x.toNat ||| y.toNat : Nat) : Int)) := by have : x.toNat ≤ x.toNat ||| y.toNat := Nat.left_le_or; omega
        have HE : Aside0 (Lib.equalFold s.data.toList t.data.toList = false) := ⟨by rw [← HI.out, Lib.drop_at Hx.out.1, Lib.drop_at Hx.out.2, Lib.equalFold_no _ _ _ _ (decide_eq_false (by omega))]⟩
        go_wp2
        go_step3
        refine ⟨rfl, ?_⟩
        dsimp only
        go_wp2
        obtain ⟨S, hS⟩ : ∃ S : ByteArray, s.extract i s.size = S := ⟨_, rfl⟩
        obtain ⟨T, hT⟩ : ∃ T : ByteArray, t.extract i t.size = T := ⟨_, rfl⟩
        rw [hS, hT]
        have hS0 : 0 < S.size := by rw [← hS, ByteArray.size_extract]; omega
        have hT0 : 0 < T.size := by rw [← hT, ByteArray.size_extract]; omega
        have hSl : S.data.toList[0]? = some x := by rw [← hS]; exact extract_first Hx.out.1
        have hTl : T.data.toList[0]? = some y := by rw [← hT]; exact extract_first Hx.out.2
        have hdS : 128 ≤ (Utf8.decode S 0).1 := decode_ge hSl (by omega)
        have hy128 : y.toNat < 128 := by omega
        go_loopg [1] 1 (fun g v1 wx => v1 = .string T ∧ wx.heap[w.heap.size]? = some (.stringIter S 0) ∧ Below w.heap.size w wx)
        case atStart => exact ⟨rfl, World.iter_heap w S 0, (Below.refl _ w).alloc (Nat.le_refl _) _⟩
        case round =>
          obtain ⟨rfl, hit, hbw⟩ := hrel
          have hsz : w.heap.size < wr.heap.size := (Array.getElem?_eq_some_iff.1 hit).1
          have hnx : ∀ ty, (Instr.next (.pointer (some ⟨w.heap.size, 0, none⟩)) true ty).run Tryz.prog wr = _ := fun ty => Lib.run_next_any_at wr w.heap.size S 0 ty hit hS0
          obtain ⟨R, hR⟩ : ∃ R, (Utf8.decode S 0).1 = R := ⟨_, rfl⟩
          obtain ⟨K, hK⟩ : ∃ K, (Utf8.decode S 0).2 = K := ⟨_, rfl⟩
          rw [hR] at hdS
          rw [hR, hK] at hnx
          have hr1 := Lib.rune_le S 0
          rw [hR] at hr1
          have hbw2 := Lib.below_iterAt hbw (k := w.heap.size) (Nat.le_refl _) S (0 + K)
          obtain ⟨W, hWd⟩ : ∃ W, wr.iterAt w.heap.size S (0 + K) = W := ⟨_, rfl⟩
          rw [hWd] at hnx hbw2
          have HF := Aside0.mk (HFT.out.below hbw2)
          have HBW := Aside0.mk hbw2
          have HY := Aside0.mk hy3
          have hoth : oth (y.toNat : Int) = (y.toNat : Int) - 32 := by unfold oth; rw [if_neg (by omega)]
          obtain ⟨o, ho⟩ : ∃ o : Int, oth (y.toNat : Int) = o := ⟨_, rfl⟩
          rw [ho] at hoth
          have hoo : oth o = (y.toNat : Int) := by unfold oth; rw [if_pos (by omega)]; omega
          have HS1 := fun (W1 : World) (hW : FoldCell W1) => simpleFold (y.toNat : Int) (by omega) W1 hW
          have HS2 := fun (W1 : World) (hW : FoldCell W1) => simpleFold o (by omega) W1 hW
          rw [ho] at HS1
          rw [hoo] at HS2
          subst hoth
          have HS1 := Aside0.mk HS1
          have HS2 := Aside0.mk HS2
          clear ho hoo hit hbw hbw2 hy3
          go_wp2_with (first | (go_at_call 142; refine (Tryz.utf8_DecodeRuneInString_ascii T y _ hTl hy128).mono ?_; rintro e w' ⟨rfl, rfl⟩) | (go_at_call 159; refine (HS1.out _ HF.out).mono ?_; rintro e w1 ⟨rfl, hb1⟩; replace HF := Aside0.mk (HF.out.below hb1); replace HBW := Aside0.mk (below_step HBW.out hb1)))
          go_loopg [13] 1 (fun g v13 wx => Aside0 (Below w.heap.size w wx) ∧ Aside0 (FoldCell wx) ∧ ((g = 1 ∧ v13 = .int .i32 ((y.toNat : Int) - 32)) ∨ (g = 0 ∧ v13 = .int .i32 (y.toNat : Int))))
          case atStart => exact ⟨HBW, HF, .inl ⟨rfl, rfl⟩⟩
          case round =>
            clear HF HBW
            obtain ⟨HBW, HF, hg⟩ := hrel
            rcases hg with ⟨rfl, rfl⟩ | ⟨rfl, rfl⟩
            · have hb1 : (((y.toNat : Int) - 32) == (y.toNat : Int)) = false := beq_eq_false_iff_ne.2 (by omega)
              have hb2 : decide (((y.toNat : Int) - 32) < (R : Int)) = true := decide_eq_true (by omega)
              go_wp2_with (go_at_call 159; refine (HS2.out _ HF.out).mono ?_; rintro e w2 ⟨rfl, hb2⟩; replace HF := Aside0.mk (HF.out.below hb2); replace HBW := Aside0.mk (below_step HBW.out hb2))
              go_roundg 0
              case measure => omega
              case rel => exact ⟨HBW, HF, .inr ⟨rfl, rfl⟩⟩
            · go_wp2
              simp only [Exit.noGoto]
              go_ret
              exact ⟨by rw [HE.out]; rfl, HBW.out⟩
end Go.Proofs.YtalionlkjdgciaaGreatDoor.Fold
