-- Written by the session's program hprint.py, over the kit's print program. Lean checks it.
import Derived.Test.YtehlkajccnmddaaDoorPZx0
import Derived.Test.YtehlkajccnmddaaDoorPZx1
import Derived.Test.YtehlkajccnmddaaDoorPZx2
namespace Go.Proofs.YtehlkajccnmddaaDoor.PZ
open Go.RowKit Go.Proofs.YtehlkajccnmddaaDoorW.PrintWords Go.Proofs.YtehlkajccnmddaaDoorW.PrintLast Go.Proofs.YtehlkajccnmddaaDoorW.PrintMore
attribute [local go_sem] max2_int min2_int max_two min_two max_three min_three max_four min_four   -- for this text's walks alone
set_option linter.unusedVariables false
set_option linter.unusedSimpArgs false

/-! ### impl_PreFor: function 17 -/
def impl_PreFor.means (l0 : List S44) (uri pre : ByteArray) : Bool :=
  match impl_SpaceOf.f l0 pre with
  | some r => r.2 && (r.1.toList == uri.toList)
  | none => false
theorem impl_PreFor.space_some (l0 : List S44) (pre : ByteArray) : ∃ s ok, impl_SpaceOf.f l0 pre = some (s, ok) := by
  unfold impl_SpaceOf.f
  split <;> exact ⟨_, _, rfl⟩
set_option maxHeartbeats 1000000 in
theorem impl_PreFor.lit (l0 : List S44) (uri pre : ByteArray) (B1 B2 : Nat) (A0 : Option Addr) (c0 : Nat) (W : World) (hr0 : Kd.C k44 W A0 l0.length l0) (hc0 : l0.length ≤ c0) (h1 : W.cell? ⟨B1, 0, none⟩ = some (.slice A0 l0.length c0)) (h2 : W.cell? ⟨B2, 0, none⟩ = some (.string uri)) :
    Calls Tryd.prog 39 #[.string pre, .pointer (some ⟨B1, 0, none⟩), .pointer (some ⟨B2, 0, none⟩)] W
      fun e w' => e = .returned (.bool (impl_PreFor.means l0 uri pre)) ∧ Below W.heap.size W w' := by
  obtain ⟨s, ok, hs⟩ := impl_PreFor.space_some l0 pre
  have hS := impl_SpaceOf.calls A0 c0 l0 pre s ok W hr0 hc0 hs
  have hk2 : ∀ w', Below W.heap.size W w' → w'.cell? ⟨B2, 0, none⟩ = some (.string uri) := fun w' hb => pw_cell_below hb h2
  have HK2 := Aside0.mk hk2
  have hu := Tryd.underlying44
  have hm : impl_PreFor.means l0 uri pre = (ok && (s.toList == uri.toList)) := by
    unfold impl_PreFor.means
    rw [hs]
  rw [hm]
  clear hs hr0 hk2 hm
  cases ok with
  | false =>
    go_enter Tryd.func39, Tryd.ntmps39
    go_wp2_with (go_at_call 15; refine hS.mono ?_; rintro e w' ⟨rfl, hb⟩; have hc2 := HK2.out _ hb)
    go_ret
    exact ⟨rfl, hb⟩
  | true =>
    cases hq : s.toList == uri.toList with
    | false =>
      go_enter Tryd.func39, Tryd.ntmps39
      go_wp2_with (go_at_call 15; refine hS.mono ?_; rintro e w' ⟨rfl, hb⟩; have hc2 := HK2.out _ hb)
      go_ret
      exact ⟨rfl, hb⟩
    | true =>
      go_enter Tryd.func39, Tryd.ntmps39
      go_wp2_with (go_at_call 15; refine hS.mono ?_; rintro e w' ⟨rfl, hb⟩; have hc2 := HK2.out _ hb)
      go_ret
      exact ⟨rfl, hb⟩
def impl_PreFor.p (l0 : List S44) (uri : ByteArray) (d : S44) : Bool := !(d.f0.toList == []) && impl_PreFor.means l0 uri d.f0
def impl_PreFor.f (l0 : List S44) (a1 : ByteArray) (a2 : Bool) : Option (ByteArray × Bool) :=
  if (a2 && impl_PreFor.means l0 a1 ⟨#[]⟩) = true then some (⟨#[]⟩, true) else
  match l0.find? (impl_PreFor.p l0 a1) with
  | some d => some (d.f0, true)
  | none => some (⟨#[]⟩, false)
theorem impl_PreFor.rd_in (l0 : List S44) (i : Nat) (h : i < l0.length) : rd_T44 l0 (i : Int) = l0[i] := by simp [rd_T44, List.getD_eq_getElem?_getD, List.getElem?_eq_getElem h]
theorem impl_PreFor.find_hit (p : S44 → Bool) (l : List S44) (k : Nat) (hk : k < l.length) (hp : p (rd_T44 l (k : Int)) = true) (h : ∀ j : Nat, j < k → p (rd_T44 l (j : Int)) = false) : l.find? p = some (rd_T44 l (k : Int)) := by
  refine List.find?_eq_some_iff_getElem.2 ⟨hp, k, hk, (impl_PreFor.rd_in l k hk).symm, fun j hj => ?_⟩
  rw [← impl_PreFor.rd_in l j (by omega), h j hj]
  rfl
theorem impl_PreFor.find_miss (p : S44 → Bool) (l : List S44) (h : ∀ j : Nat, j < l.length → p (rd_T44 l (j : Int)) = false) : l.find? p = none := by
  refine List.find?_eq_none.2 (fun d hd => ?_)
  obtain ⟨i, hi, rfl⟩ := List.getElem_of_mem hd
  rw [← impl_PreFor.rd_in l i hi, h i hi]
  simp
/-- Where the loop begins. -/
def impl_PreFor.st (w : World) (A0 : Option Addr) (n c0 : Nat) (a1 : ByteArray) (W : World) : Prop := Below w.heap.size w W ∧ W.cell? ⟨w.heap.size, 0, none⟩ = some (.slice A0 n c0) ∧ W.cell? ⟨w.heap.size + 1, 0, none⟩ = some (.string a1)
theorem impl_PreFor.st_below {w W W1 : World} {A0 : Option Addr} {n c0 : Nat} {a1 : ByteArray} (h : impl_PreFor.st w A0 n c0 a1 W) (hb : Below W.heap.size W W1) : impl_PreFor.st w A0 n c0 a1 W1 := ⟨h.1.trans (hb.mono h.1.size), pw_cell_below hb h.2.1, pw_cell_below hb h.2.2⟩
theorem impl_PreFor.st_new (w : World) (A0 : Option Addr) (n c0 : Nat) (a1 : ByteArray) (t t2 : TypeId) : impl_PreFor.st w A0 n c0 a1 ((w.alloc (.cells #[.slice A0 n c0] t)).alloc (.cells #[.string a1] t2)) := by
  refine ⟨below_alloc (below_alloc (Below.refl _ _) _) _, ?_, ?_⟩
  · rw [World.cell?_alloc_past _ _ _ (by simp), World.cell?_alloc_at _ _ _ _ rfl]
    rfl
  · rw [World.cell?_alloc_at _ _ _ _ (by simp)]
    rfl
set_option maxHeartbeats 4000000 in
set_option maxRecDepth 100000 in
theorem impl_PreFor.calls (A0 : Option Addr) (c0 : Nat) (l0 : List (S44)) (a1 : ByteArray) (a2 : Bool) (r1 : ByteArray) (r2 : Bool) (w : World) (hr0 : Kd.C k44 w A0 l0.length l0) (hc0 : l0.length ≤ c0) (h : impl_PreFor.f l0 a1 a2 = some (r1, r2)) :
    Calls Tryd.prog 17 #[.slice A0 l0.length c0, .string a1, .bool a2] w fun e w' => e = .returned (.tuple #[.string r1, .bool r2]) ∧ Below w.heap.size w w' := by
  have hl0 : l0.length ≤ 9223372036854775807 := hr0.2.1
  have hC := fun (W : World) (pre : ByteArray) (hW : impl_PreFor.st w A0 l0.length c0 a1 W) =>
    impl_PreFor.lit l0 a1 pre _ _ A0 c0 W (Kd.C_below hr0 hW.1) hc0 hW.2.1 hW.2.2
  have hu := Tryd.underlying44
  have HR0 := Aside0.mk hr0
  have eg : ∀ args w, (callFunc 39 args).run Tryd.prog w = .ok (.enter 39 args) w := enters_of Tryd.func39 (by kernel_rfl) rfl
  clear hr0 hc0
  have HM := Aside0.mk hC
  by_cases hb0 : (a2 && impl_PreFor.means l0 a1 ⟨#[]⟩) = true
  · have hf : impl_PreFor.f l0 a1 a2 = some (⟨#[]⟩, true) := by unfold impl_PreFor.f; rw [if_pos hb0]
    rw [hf] at h
    cases h
    have h2 : a2 = true := by cases a2 <;> simp_all
    subst h2
    have hm : impl_PreFor.means l0 a1 ⟨#[]⟩ = true := by simpa using hb0
    have hM := fun W (hW : impl_PreFor.st w A0 l0.length c0 a1 W) => hC W ⟨#[]⟩ hW
    simp only [hm] at hM
    clear hf hm hb0 hC
    go_enter Tryd.func17, Tryd.ntmps17
    go_wp2_with (go_at_fn 39; refine (hM _ (impl_PreFor.st_new _ _ _ _ _ _ _)).mono ?_; rintro e w' ⟨rfl, hb⟩)
    exact bodyPost_ret (v := .tuple #[.string ⟨#[]⟩, .bool true]) (by simp [results, Tryd.results17, go_sem]) rfl ⟨rfl, (impl_PreFor.st_below (impl_PreFor.st_new _ _ _ _ _ _ _) hb).1⟩
  · have hf : impl_PreFor.f l0 a1 a2 = (match l0.find? (impl_PreFor.p l0 a1) with | some d => some (d.f0, true) | none => some (⟨#[]⟩, false)) := by
      unfold impl_PreFor.f
      rw [if_neg hb0]
    rw [hf] at h
    clear hf
    have H := Aside0.mk h
    clear h
    have hM := fun W (hW : impl_PreFor.st w A0 l0.length c0 a1 W) => hC W ⟨#[]⟩ hW
    have hb1 : a2 = true → impl_PreFor.means l0 a1 ⟨#[]⟩ = false := fun e => by subst e; simpa using hb0
    clear hb0
    cases a2 with
    | false =>
      clear hb1 hM
      go_enter Tryd.func17, Tryd.ntmps17
      go_wp2
      obtain ⟨W1, hW1⟩ : ∃ W1, W1 = ((w.alloc (.cells #[.slice A0 l0.length c0] 30)).alloc (.cells #[.string a1] 9)) := ⟨_, rfl⟩
      have hst : impl_PreFor.st w A0 l0.length c0 a1 W1 := by rw [hW1]; exact impl_PreFor.st_new _ _ _ _ _ _ _
      rw [← hW1]
      clear hW1 
      have HST := Aside0.mk hst
      clear hst
      go_loopg [19] l0.length (fun gg s19 wr => ∃ kk : Nat, kk ≤ l0.length ∧ l0.length - kk ≤ gg ∧ s19 = .int .i64 kk ∧ Aside0 (impl_PreFor.st w A0 l0.length c0 a1 wr) ∧ Aside0 (∀ j : Nat, j < kk → impl_PreFor.p l0 a1 (rd_T44 l0 (j : Int)) = false))
      case atStart => exact ⟨0, Nat.zero_le _, by omega, rfl, HST, ⟨fun j hj => absurd hj (Nat.not_lt_zero _)⟩⟩
      case round =>
        obtain ⟨kk, hkk, hg, rfl, S, N⟩ := hrel
        by_cases hlt : kk < l0.length
        · have hltz : (kk : Int) < (l0.length : Int) := by omega
          obtain ⟨ad, ead, z0, z1⟩ := at_T44 (Kd.C_below HR0.out S.out.1) (kk : Int) (by omega) (by omega)
          simp only [Int.toNat_natCast] at z0 z1
          cases ead
          have hMk := fun W hW => HM.out W (rd_T44 l0 (kk : Int)).f0 hW
          have hpk : impl_PreFor.p l0 a1 (rd_T44 l0 (kk : Int)) = (!((rd_T44 l0 (kk : Int)).f0.toList == []) && impl_PreFor.means l0 a1 (rd_T44 l0 (kk : Int)).f0) := rfl
          skip
          generalize hd : rd_T44 l0 (kk : Int) = d at z0 z1 hMk hpk
          have HD := Aside0.mk hd
          clear hd
          by_cases he : d.f0.toList = []
          · have hpf : impl_PreFor.p l0 a1 d = false := by rw [hpk, he]; rfl
            have HPF := Aside0.mk hpf
            clear hpf hpk hMk
            go_wp2
            go_roundg (l0.length - (kk + 1))
            case measure => omega
            case rel =>
              refine ⟨kk + 1, by omega, by omega, by go_num, ⟨impl_PreFor.st_below S.out (by repeat (first | exact Below.refl _ _ | apply below_alloc))⟩, ⟨fun j hj => ?_⟩⟩
              by_cases e : j = kk
              · subst e
                rw [HD.out]
                exact HPF.out
              · exact N.out j (by omega)
          · have he2 : (d.f0.toList == []) = false := by simpa using he
            rw [he2] at hpk
            cases hq : impl_PreFor.means l0 a1 d.f0 with
            | false =>
              simp only [hq] at hMk
              rw [hq] at hpk
              have HPF := Aside0.mk hpk
              clear hpk hq
              go_wp2_with (go_at_fn 39; refine (hMk _ (impl_PreFor.st_below S.out (by repeat (first | exact Below.refl _ _ | apply below_alloc)))).mono ?_; rintro e w' ⟨rfl, hb⟩)
              go_roundg (l0.length - (kk + 1))
              case measure => omega
              case rel =>
                refine ⟨kk + 1, by omega, by omega, by go_num, ⟨impl_PreFor.st_below (impl_PreFor.st_below S.out (by repeat (first | exact Below.refl _ _ | apply below_alloc))) hb⟩, ⟨fun j hj => ?_⟩⟩
                by_cases e : j = kk
                · subst e
                  rw [HD.out]
                  exact HPF.out
                · exact N.out j (by omega)
            | true =>
              simp only [hq] at hMk
              rw [hq] at hpk
              have HPF := Aside0.mk hpk
              clear hpk hq
              go_wp2_with (go_at_fn 39; refine (hMk _ (impl_PreFor.st_below S.out (by repeat (first | exact Below.refl _ _ | apply below_alloc)))).mono ?_; rintro e w' ⟨rfl, hb⟩; have hc3 := pw_cell_below hb (show World.cell? (wr.alloc (.cells #[.string d.f0, .string d.f1] 44)) ⟨wr.heap.size, 0, none⟩ = some (.string d.f0) from by rw [World.cell?_alloc_at _ _ _ _ rfl]; rfl))
              have hfin := impl_PreFor.find_hit (impl_PreFor.p l0 a1) l0 kk hlt (by rw [HD.out]; exact HPF.out) N.out
              rw [HD.out] at hfin
              have h := H.out
              rw [hfin] at h
              cases h
              exact bodyPost_ret (v := .tuple #[.string d.f0, .bool true]) (by simp [results, Tryd.results17, go_sem]) rfl ⟨rfl, (impl_PreFor.st_below (impl_PreFor.st_below S.out (by repeat (first | exact Below.refl _ _ | apply below_alloc))) hb).1⟩
        · have hltz : ¬ (kk : Int) < (l0.length : Int) := by omega
          have : kk = l0.length := by omega
          subst this
          go_wp2
          have h := H.out
          rw [impl_PreFor.find_miss _ _ N.out] at h
          cases h
          exact bodyPost_ret (v := .tuple #[.string ⟨#[]⟩, .bool false]) (by simp [results, Tryd.results17, go_sem]) rfl ⟨rfl, S.out.1⟩
    | true =>
      simp only [hb1 rfl] at hM
      clear hb1
      go_enter Tryd.func17, Tryd.ntmps17
      go_wp2_with (go_at_fn 39; refine (hM _ (impl_PreFor.st_new _ _ _ _ _ _ _)).mono ?_; rintro e w' ⟨rfl, hb⟩; have hcell := (impl_PreFor.st_below (impl_PreFor.st_new _ _ _ _ _ _ _) hb).2.1)
      obtain ⟨W1, hW1⟩ : ∃ W1, W1 = w' := ⟨_, rfl⟩
      have hst : impl_PreFor.st w A0 l0.length c0 a1 W1 := by rw [hW1]; exact impl_PreFor.st_below (impl_PreFor.st_new _ _ _ _ _ _ _) hb
      rw [← hW1]
      clear hW1 hb hcell hM
      have HST := Aside0.mk hst
      clear hst
      go_loopg [19] l0.length (fun gg s19 wr => ∃ kk : Nat, kk ≤ l0.length ∧ l0.length - kk ≤ gg ∧ s19 = .int .i64 kk ∧ Aside0 (impl_PreFor.st w A0 l0.length c0 a1 wr) ∧ Aside0 (∀ j : Nat, j < kk → impl_PreFor.p l0 a1 (rd_T44 l0 (j : Int)) = false))
      case atStart => exact ⟨0, Nat.zero_le _, by omega, rfl, HST, ⟨fun j hj => absurd hj (Nat.not_lt_zero _)⟩⟩
      case round =>
        obtain ⟨kk, hkk, hg, rfl, S, N⟩ := hrel
        by_cases hlt : kk < l0.length
        · have hltz : (kk : Int) < (l0.length : Int) := by omega
          obtain ⟨ad, ead, z0, z1⟩ := at_T44 (Kd.C_below HR0.out S.out.1) (kk : Int) (by omega) (by omega)
          simp only [Int.toNat_natCast] at z0 z1
          cases ead
          have hMk := fun W hW => HM.out W (rd_T44 l0 (kk : Int)).f0 hW
          have hpk : impl_PreFor.p l0 a1 (rd_T44 l0 (kk : Int)) = (!((rd_T44 l0 (kk : Int)).f0.toList == []) && impl_PreFor.means l0 a1 (rd_T44 l0 (kk : Int)).f0) := rfl
          skip
          generalize hd : rd_T44 l0 (kk : Int) = d at z0 z1 hMk hpk
          have HD := Aside0.mk hd
          clear hd
          by_cases he : d.f0.toList = []
          · have hpf : impl_PreFor.p l0 a1 d = false := by rw [hpk, he]; rfl
            have HPF := Aside0.mk hpf
            clear hpf hpk hMk
            go_wp2
            go_roundg (l0.length - (kk + 1))
            case measure => omega
            case rel =>
              refine ⟨kk + 1, by omega, by omega, by go_num, ⟨impl_PreFor.st_below S.out (by repeat (first | exact Below.refl _ _ | apply below_alloc))⟩, ⟨fun j hj => ?_⟩⟩
              by_cases e : j = kk
              · subst e
                rw [HD.out]
                exact HPF.out
              · exact N.out j (by omega)
          · have he2 : (d.f0.toList == []) = false := by simpa using he
            rw [he2] at hpk
            cases hq : impl_PreFor.means l0 a1 d.f0 with
            | false =>
              simp only [hq] at hMk
              rw [hq] at hpk
              have HPF := Aside0.mk hpk
              clear hpk hq
              go_wp2_with (go_at_fn 39; refine (hMk _ (impl_PreFor.st_below S.out (by repeat (first | exact Below.refl _ _ | apply below_alloc)))).mono ?_; rintro e w' ⟨rfl, hb⟩)
              go_roundg (l0.length - (kk + 1))
              case measure => omega
              case rel =>
                refine ⟨kk + 1, by omega, by omega, by go_num, ⟨impl_PreFor.st_below (impl_PreFor.st_below S.out (by repeat (first | exact Below.refl _ _ | apply below_alloc))) hb⟩, ⟨fun j hj => ?_⟩⟩
                by_cases e : j = kk
                · subst e
                  rw [HD.out]
                  exact HPF.out
                · exact N.out j (by omega)
            | true =>
              simp only [hq] at hMk
              rw [hq] at hpk
              have HPF := Aside0.mk hpk
              clear hpk hq
              go_wp2_with (go_at_fn 39; refine (hMk _ (impl_PreFor.st_below S.out (by repeat (first | exact Below.refl _ _ | apply below_alloc)))).mono ?_; rintro e w' ⟨rfl, hb⟩; have hc3 := pw_cell_below hb (show World.cell? (wr.alloc (.cells #[.string d.f0, .string d.f1] 44)) ⟨wr.heap.size, 0, none⟩ = some (.string d.f0) from by rw [World.cell?_alloc_at _ _ _ _ rfl]; rfl))
              have hfin := impl_PreFor.find_hit (impl_PreFor.p l0 a1) l0 kk hlt (by rw [HD.out]; exact HPF.out) N.out
              rw [HD.out] at hfin
              have h := H.out
              rw [hfin] at h
              cases h
              exact bodyPost_ret (v := .tuple #[.string d.f0, .bool true]) (by simp [results, Tryd.results17, go_sem]) rfl ⟨rfl, (impl_PreFor.st_below (impl_PreFor.st_below S.out (by repeat (first | exact Below.refl _ _ | apply below_alloc))) hb).1⟩
        · have hltz : ¬ (kk : Int) < (l0.length : Int) := by omega
          have : kk = l0.length := by omega
          subst this
          go_wp2
          have h := H.out
          rw [impl_PreFor.find_miss _ _ N.out] at h
          cases h
          exact bodyPost_ret (v := .tuple #[.string ⟨#[]⟩, .bool false]) (by simp [results, Tryd.results17, go_sem]) rfl ⟨rfl, S.out.1⟩

/-! ### spec_SpaceOf: function 20 -/
def spec_SpaceOf.l0 : Nat → List (S44) → ByteArray → Int → Option (ByteArray × Bool)
 | 0, _, _, _ => none
 | k + 1, x0, x1, x6 => if x6 ≥ 0 then (if 0 ≤ x6 then (if x6 < (x0.length : Int) then (if ((rd_T44 x0 x6).f0).toList = x1.toList then (some ((rd_T44 x0 x6).f1, true)) else (spec_SpaceOf.l0 k x0 x1 (wrap64 (x6 - 1)))) else (none)) else (none)) else (some ((⟨#[]⟩ : ByteArray), (x1.toList == ([] : List UInt8))))
def spec_SpaceOf.f (k : Nat) (l0 : List (S44)) (a1 : ByteArray) : Option (ByteArray × Bool) := spec_SpaceOf.l0 k l0 a1 (wrap64 ((l0.length : Int) - 1))
set_option maxHeartbeats 8000000 in
set_option maxRecDepth 100000 in
theorem spec_SpaceOf.calls (k : Nat) (A0 : Option Addr) (c0 : Nat) (l0 : List (S44)) (a1 : ByteArray) (r1 : ByteArray) (r2 : Bool) (w : World) (hr0 : Kd.C k44 w A0 l0.length l0) (hc0 : l0.length ≤ c0) (h : spec_SpaceOf.f k l0 a1 = some (r1, r2)) :
  Calls Tryd.prog 20 #[.slice A0 l0.length c0, .string a1] w fun e w' => e = .returned (.tuple #[.string r1, .bool r2]) ∧ Drawn0 w w' := by
 have HR0 := Aside0.mk hr0
 have HC0 := Aside0.mk hc0
 clear hr0 hc0
 have H : (spec_SpaceOf.l0 k l0 a1 (wrap64 ((l0.length : Int) - 1))) = some (r1, r2) := h
 clear h
 have H' := Aside0.mk H
 clear H
 go_enter Tryd.func20, Tryd.ntmps20
 go_wp2
 go_loopg [6] k (fun kq v6 w' => ∃ (x6_1 : Int), v6 = .int .i64 x6_1 ∧ Aside0 (spec_SpaceOf.l0 kq l0 a1 x6_1 = some (r1, r2)) ∧ Aside0 (kq ≤ k) ∧ Drawn0 w w')
 case atStart => exact ⟨(wrap64 ((l0.length : Int) - 1)), (by first | rfl | (simp; done) | (simp [*]; done)), H', ⟨Nat.le_refl _⟩, by repeat (first | exact Drawn0.refl _ | apply Drawn0.step)⟩
 case round =>
  clear H'
  try clear c2
  try clear p2
  obtain ⟨x6_1, rfl, HA, HK1, ⟨m1, rfl⟩⟩ := hrel
  cases gk with
  | zero => exact absurd HA.out (by simp [spec_SpaceOf.l0])
  | succ k1 =>
   have H := HA.out
   clear HA
   simp only [spec_SpaceOf.l0] at H
   by_cases c3 : x6_1 ≥ 0
   ·rw [if_pos c3] at H
    have c3b0 : decide (0 ≤ x6_1) = true := decide_eq_true c3
    clear c3
    by_cases c4 : 0 ≤ x6_1
    ·rw [if_pos c4] at H
     have c4b0 : decide (0 ≤ x6_1) = true := decide_eq_true c4
     clear c4
     by_cases c5 : x6_1 < (l0.length : Int)
     ·rw [if_pos c5] at H
      have c5b0 : decide (x6_1 < (l0.length : Int)) = true := decide_eq_true c5
      clear c5
      by_cases c6 : ((rd_T44 l0 x6_1).f0).toList = a1.toList
      ·rw [if_pos c6] at H
       have c6b0 : (((rd_T44 l0 x6_1).f0).toList == a1.toList) = true := beq_iff_eq.mpr c6
       have c6b1 : (((rd_T44 l0 x6_1).f0).toList != a1.toList) = false := bne_eq_false_iff_eq.mpr c6
       clear c6
       simp only [Option.some.injEq, Prod.mk.injEq] at H
       obtain ⟨rfl, rfl⟩ := H
       have p291 : 0 ≤ (x6_1 : Int) := of_decide_eq_true (by first | (with_reducible assumption) | assumption)
       have q291 : x6_1 < (l0.length : Int) := of_decide_eq_true (by first | (with_reducible assumption) | assumption)
       obtain ⟨ad291, e291, hx291_0, hx291_1⟩ := at_T44 HR0.out x6_1 p291 q291
       cases e291
       replace p291 := eq_true p291
       replace q291 := eq_true q291
       have p292 : 0 ≤ (x6_1 : Int) := of_decide_eq_true (by first | (with_reducible assumption) | assumption)
       have q292 : x6_1 < (l0.length : Int) := of_decide_eq_true (by first | (with_reducible assumption) | assumption)
       obtain ⟨ad292, e292, hx292_0, hx292_1⟩ := at_T44 HR0.out x6_1 p292 q292
       obtain rfl : ad291 = ad292 := (by injection e292)
       replace p292 := eq_true p292
       replace q292 := eq_true q292
       go_wp2
       go_ret2
       exact ⟨by first | rfl | (simp; done) | (simp [*]; done), by repeat (first | exact Drawn0.refl _ | apply Drawn0.step)⟩
      ·rw [if_neg c6] at H
       have c6b0 : (((rd_T44 l0 x6_1).f0).toList == a1.toList) = false := beq_eq_false_iff_ne.mpr c6
       have c6b1 : (((rd_T44 l0 x6_1).f0).toList != a1.toList) = true := bne_iff_ne.mpr c6
       have H' := Aside0.mk H
       clear H
       have p291 : 0 ≤ (x6_1 : Int) := of_decide_eq_true (by first | (with_reducible assumption) | assumption)
       have q291 : x6_1 < (l0.length : Int) := of_decide_eq_true (by first | (with_reducible assumption) | assumption)
       obtain ⟨ad291, e291, hx291_0, hx291_1⟩ := at_T44 HR0.out x6_1 p291 q291
       cases e291
       replace p291 := eq_true p291
       replace q291 := eq_true q291
       go_wp2
       go_roundg k1
       case measure => have := HK1.out; omega
       case rel => exact ⟨(wrap64 (x6_1 - 1)), (by first | rfl | (simp; done) | (simp [*]; done)), H', ⟨by have := HK1.out; omega⟩, by repeat (first | exact Drawn0.refl _ | apply Drawn0.step)⟩
     ·rw [if_neg c5] at H
      exact absurd H (by simp)
    ·rw [if_neg c4] at H
     exact absurd H (by simp)
   ·rw [if_neg c3] at H
    have c3b0 : decide (0 ≤ x6_1) = false := decide_eq_false c3
    clear c3
    simp only [Option.some.injEq, Prod.mk.injEq] at H
    obtain ⟨rfl, rfl⟩ := H
    go_wp2
    go_ret2
    exact ⟨by first | rfl | (simp; done) | (simp [*]; done), by repeat (first | exact Drawn0.refl _ | apply Drawn0.step)⟩

/-! ### spec_PreFor: function 18 -/
mutual
def spec_PreFor.j0 : Nat → List (S44) → ByteArray → Option (ByteArray × Bool)
 | 0, _, _ => none
 | k + 1, x0, x1 => spec_PreFor.l0 k x0 x1 0
def spec_PreFor.l0 : Nat → List (S44) → ByteArray → Int → Option (ByteArray × Bool)
 | 0, _, _, _ => none
 | k + 1, x0, x1, x10 => if x10 < (x0.length : Int) then (if 0 ≤ x10 then (if ((rd_T44 x0 x10).f0).toList = ([] : List UInt8) then (spec_PreFor.l0 k x0 x1 (wrap64 (x10 + 1))) else ((spec_SpaceOf.f k x0 ((rd_T44 x0 x10).f0)).bind fun bt297 => (if bt297.2 = true then (if bt297.1.toList = x1.toList then (some ((rd_T44 x0 x10).f0, true)) else (spec_PreFor.l0 k x0 x1 (wrap64 (x10 + 1)))) else (spec_PreFor.l0 k x0 x1 (wrap64 (x10 + 1)))))) else (none)) else (some ((⟨#[]⟩ : ByteArray), false))
end
def spec_PreFor.f (k : Nat) (l0 : List (S44)) (a1 : ByteArray) (a2 : Bool) : Option (ByteArray × Bool) := if a2 = true then ((spec_SpaceOf.f k l0 (⟨#[]⟩ : ByteArray)).bind fun bt293 => (if bt293.1.toList = a1.toList then (some ((⟨#[]⟩ : ByteArray), true)) else (spec_PreFor.j0 k l0 a1))) else (spec_PreFor.j0 k l0 a1)
set_option maxHeartbeats 8000000 in
set_option maxRecDepth 100000 in
theorem spec_PreFor.calls (k : Nat) (A0 : Option Addr) (c0 : Nat) (l0 : List (S44)) (a1 : ByteArray) (a2 : Bool) (r1 : ByteArray) (r2 : Bool) (w : World) (hr0 : Kd.C k44 w A0 l0.length l0) (hc0 : l0.length ≤ c0) (h : spec_PreFor.f k l0 a1 a2 = some (r1, r2)) :
  Calls Tryd.prog 18 #[.slice A0 l0.length c0, .string a1, .bool a2] w fun e w' => e = .returned (.tuple #[.string r1, .bool r2]) ∧ Drawn0 w w' := by
 have HR0 := Aside0.mk hr0
 have HC0 := Aside0.mk hc0
 clear hr0 hc0
 have H : (if a2 = true then ((spec_SpaceOf.f k l0 (⟨#[]⟩ : ByteArray)).bind fun bt293 => (if bt293.1.toList = a1.toList then (some ((⟨#[]⟩ : ByteArray), true)) else (spec_PreFor.j0 k l0 a1))) else (spec_PreFor.j0 k l0 a1)) = some (r1, r2) := h
 clear h
 have HC4 := Aside0.mk H
 clear H
 go_enter Tryd.func18, Tryd.ntmps18
 go_upto_if 13 with (fail)
 go_cut [] (fun wc => ∃ (kq : Nat), Aside0 (spec_PreFor.j0 kq l0 a1 = some (r1, r2)) ∧ Aside0 (kq ≤ k) ∧ Drawn0 w wc)
 case first =>
  have H := HC4.out
  clear HC4
  by_cases c5 : a2 = true
  ·subst c5
   have H1 : ((spec_SpaceOf.f k l0 (⟨#[]⟩ : ByteArray)).bind fun bt293 => (if bt293.1.toList = a1.toList then (some ((⟨#[]⟩ : ByteArray), true)) else (spec_PreFor.j0 k l0 a1))) = some (r1, r2) := by rw [if_pos rfl] at H; exact H
   clear H
   have H := H1
   clear H1
   replace H := Option.bind_eq_some_iff.mp H
   obtain ⟨⟨t293, t294⟩, A60, H⟩ := H
   replace H : (if t293.toList = a1.toList then (some ((⟨#[]⟩ : ByteArray), true)) else (spec_PreFor.j0 k l0 a1)) = some (r1, r2) := H
   have A6 := Aside0.mk A60
   clear A60
   by_cases c7 : t293.toList = a1.toList
   ·rw [if_pos c7] at H
    have c7b0 : (t293.toList == a1.toList) = true := beq_iff_eq.mpr c7
    have c7b1 : (t293.toList != a1.toList) = false := bne_eq_false_iff_eq.mpr c7
    clear c7
    (first | rw [c7b0] | (simp only [i64_w, i32_w]; rw [c7b0]) | skip)
    simp only [Option.some.injEq, Prod.mk.injEq] at H
    obtain ⟨rfl, rfl⟩ := H
    go_wp2_with (first | ((with_reducible refine gate_callee (f := 20) rfl ?_); refine goesL_ (some 16) rfl rfl Tryd.func20 (by kernel_rfl) rfl #[.slice A0 l0.length c0, .string (⟨#[]⟩ : ByteArray)] rfl (by (try simp only [List.map_toArray, List.map_cons, List.map_nil]); first | done | rfl | (simp only [List.length_drop, List.length_take]; rfl)) ?_; (with_reducible refine (spec_SpaceOf.calls k _ _ l0 (⟨#[]⟩ : ByteArray) t293 t294 _ ?side1 ?side2 A6.out).mono ?_); (case side1 => repeat (first | exact HR0.out | (with_reducible refine Kd.C_alloc ?_ _) | (with_reducible refine Kd.C_drewN ?_ _) | (with_reducible refine Kd.C_drew ?_))); (case side2 => exact HC0.out); rintro e w' ⟨rfl, ⟨nd, rfl⟩⟩; refine ⟨_, rfl, ?_⟩))
    go_ret2
    exact ⟨by first | rfl | (simp; done) | (simp [*]; done), by repeat (first | exact Drawn0.refl _ | apply Drawn0.step)⟩
   ·rw [if_neg c7] at H
    have c7b0 : (t293.toList == a1.toList) = false := beq_eq_false_iff_ne.mpr c7
    have c7b1 : (t293.toList != a1.toList) = true := bne_iff_ne.mpr c7
    (first | rw [c7b0] | (simp only [i64_w, i32_w]; rw [c7b0]) | skip)
    have H' := Aside0.mk H
    clear H
    go_wp2_with (first | ((with_reducible refine gate_callee (f := 20) rfl ?_); refine goesL_ (some 16) rfl rfl Tryd.func20 (by kernel_rfl) rfl #[.slice A0 l0.length c0, .string (⟨#[]⟩ : ByteArray)] rfl (by (try simp only [List.map_toArray, List.map_cons, List.map_nil]); first | done | rfl | (simp only [List.length_drop, List.length_take]; rfl)) ?_; (with_reducible refine (spec_SpaceOf.calls k _ _ l0 (⟨#[]⟩ : ByteArray) t293 t294 _ ?side1 ?side2 A6.out).mono ?_); (case side1 => repeat (first | exact HR0.out | (with_reducible refine Kd.C_alloc ?_ _) | (with_reducible refine Kd.C_drewN ?_ _) | (with_reducible refine Kd.C_drew ?_))); (case side2 => exact HC0.out); rintro e w' ⟨rfl, ⟨nd, rfl⟩⟩; refine ⟨_, rfl, ?_⟩))
    go_meet
    case rel => exact ⟨_, H', ⟨by first | omega | exact Nat.le_refl _⟩, by repeat (first | exact Drawn0.refl _ | apply Drawn0.step)⟩
  ·replace c5 := Bool.eq_false_iff.mpr c5
   subst c5
   have H1 : (spec_PreFor.j0 k l0 a1) = some (r1, r2) := by rw [if_neg (show ¬ (false = true) by decide)] at H; exact H
   clear H
   have H := H1
   clear H1
   have H' := Aside0.mk H
   clear H
   go_wp2
   go_meet
   case rel => exact ⟨_, H', ⟨by first | omega | exact Nat.le_refl _⟩, by repeat (first | exact Drawn0.refl _ | apply Drawn0.step)⟩
 case rest =>
  clear HC4
  try clear c1
  try clear c2
  try clear p2
  try clear c5
  try clear c7
  try clear c7b0
  try clear c7b1
  obtain ⟨kq, HA, HJ3, ⟨mc3, rfl⟩⟩ := hcut
  cases kq with
  | zero => exact absurd HA.out (by simp [spec_PreFor.j0])
  | succ kj3 =>
   have H := HA.out
   clear HA
   simp only [spec_PreFor.j0] at H
   have H' := Aside0.mk H
   clear H
   go_wp2
   go_loopg [10] kj3 (fun kq v10 w' => ∃ (x10_2 : Int), v10 = .int .i64 x10_2 ∧ Aside0 (spec_PreFor.l0 kq l0 a1 x10_2 = some (r1, r2)) ∧ Aside0 (kq ≤ kj3) ∧ Drawn0 w w')
   case atStart => exact ⟨(0), (by first | rfl | (simp; done) | (simp [*]; done)), H', ⟨Nat.le_refl _⟩, by repeat (first | exact Drawn0.refl _ | apply Drawn0.step)⟩
   case round =>
    clear H'
    try clear c1
    try clear c2
    try clear p2
    try clear c3
    try clear c5
    try clear c7
    try clear c7b0
    try clear c7b1
    try clear p2
    obtain ⟨x10_2, rfl, HA, HK2, ⟨m2, rfl⟩⟩ := hrel
    cases gk with
    | zero => exact absurd HA.out (by simp [spec_PreFor.l0])
    | succ k2 =>
     have H := HA.out
     clear HA
     simp only [spec_PreFor.l0] at H
     by_cases c8 : x10_2 < (l0.length : Int)
     ·rw [if_pos c8] at H
      have c8b0 : decide (x10_2 < (l0.length : Int)) = true := decide_eq_true c8
      clear c8
      by_cases c9 : 0 ≤ x10_2
      ·rw [if_pos c9] at H
       have c9b0 : decide (0 ≤ x10_2) = true := decide_eq_true c9
       clear c9
       by_cases c10 : ((rd_T44 l0 x10_2).f0).toList = ([] : List UInt8)
       ·rw [if_pos c10] at H
        have c10b0 : (((rd_T44 l0 x10_2).f0).toList == ([] : List UInt8)) = true := beq_iff_eq.mpr c10
        have c10b1 : (((rd_T44 l0 x10_2).f0).toList != ([] : List UInt8)) = false := bne_eq_false_iff_eq.mpr c10
        clear c10
        have H' := Aside0.mk H
        clear H
        have p295 : 0 ≤ (x10_2 : Int) := of_decide_eq_true (by first | (with_reducible assumption) | assumption)
        have q295 : x10_2 < (l0.length : Int) := of_decide_eq_true (by first | (with_reducible assumption) | assumption)
        obtain ⟨ad295, e295, hx295_0, hx295_1⟩ := at_T44 HR0.out x10_2 p295 q295
        cases e295
        replace p295 := eq_true p295
        replace q295 := eq_true q295
        go_wp2
        go_roundg k2
        case measure => have := HJ3.out; have := HK2.out; omega
        case rel => exact ⟨(wrap64 (x10_2 + 1)), (by first | rfl | (simp; done) | (simp [*]; done)), H', ⟨by have := HJ3.out; have := HK2.out; omega⟩, by repeat (first | exact Drawn0.refl _ | apply Drawn0.step)⟩
       ·rw [if_neg c10] at H
        have c10b0 : (((rd_T44 l0 x10_2).f0).toList == ([] : List UInt8)) = false := beq_eq_false_iff_ne.mpr c10
        have c10b1 : (((rd_T44 l0 x10_2).f0).toList != ([] : List UInt8)) = true := bne_iff_ne.mpr c10
        replace H := Option.bind_eq_some_iff.mp H
        obtain ⟨⟨t297, t298⟩, A110, H⟩ := H
        replace H : (if t298 = true then (if t297.toList = a1.toList then (some ((rd_T44 l0 x10_2).f0, true)) else (spec_PreFor.l0 k2 l0 a1 (wrap64 (x10_2 + 1)))) else (spec_PreFor.l0 k2 l0 a1 (wrap64 (x10_2 + 1)))) = some (r1, r2) := H
        have A11 := Aside0.mk A110
        clear A110
        by_cases c12 : t298 = true
        ·subst c12
         have H1 : (if t297.toList = a1.toList then (some ((rd_T44 l0 x10_2).f0, true)) else (spec_PreFor.l0 k2 l0 a1 (wrap64 (x10_2 + 1)))) = some (r1, r2) := by rw [if_pos rfl] at H; exact H
         clear H
         have H := H1
         clear H1
         by_cases c13 : t297.toList = a1.toList
         ·rw [if_pos c13] at H
          have c13b0 : (t297.toList == a1.toList) = true := beq_iff_eq.mpr c13
          have c13b1 : (t297.toList != a1.toList) = false := bne_eq_false_iff_eq.mpr c13
          clear c13
          simp only [Option.some.injEq, Prod.mk.injEq] at H
          obtain ⟨rfl, rfl⟩ := H
          have p295 : 0 ≤ (x10_2 : Int) := of_decide_eq_true (by first | (with_reducible assumption) | assumption)
          have q295 : x10_2 < (l0.length : Int) := of_decide_eq_true (by first | (with_reducible assumption) | assumption)
          obtain ⟨ad295, e295, hx295_0, hx295_1⟩ := at_T44 HR0.out x10_2 p295 q295
          cases e295
          replace p295 := eq_true p295
          replace q295 := eq_true q295
          have p296 : 0 ≤ (x10_2 : Int) := of_decide_eq_true (by first | (with_reducible assumption) | assumption)
          have q296 : x10_2 < (l0.length : Int) := of_decide_eq_true (by first | (with_reducible assumption) | assumption)
          obtain ⟨ad296, e296, hx296_0, hx296_1⟩ := at_T44 HR0.out x10_2 p296 q296
          obtain rfl : ad295 = ad296 := (by injection e296)
          replace p296 := eq_true p296
          replace q296 := eq_true q296
          go_wp2_with (first | ((with_reducible refine gate_callee (f := 20) rfl ?_); refine goesL_ (some 41) rfl rfl Tryd.func20 (by kernel_rfl) rfl #[.slice (some ad295) l0.length c0, .string ((rd_T44 l0 x10_2).f0)] rfl (by (try simp only [List.map_toArray, List.map_cons, List.map_nil]); first | done | rfl | (simp only [List.length_drop, List.length_take]; rfl)) ?_; (with_reducible refine (spec_SpaceOf.calls k2 _ _ l0 ((rd_T44 l0 x10_2).f0) t297 true _ ?side1 ?side2 A11.out).mono ?_); (case side1 => repeat (first | exact HR0.out | (with_reducible refine Kd.C_alloc ?_ _) | (with_reducible refine Kd.C_drewN ?_ _) | (with_reducible refine Kd.C_drew ?_))); (case side2 => exact HC0.out); rintro e w' ⟨rfl, ⟨nd, rfl⟩⟩; refine ⟨_, rfl, ?_⟩; have p299 : 0 ≤ (x10_2 : Int) := of_decide_eq_true (by first | (with_reducible assumption) | assumption); have q299 : x10_2 < (l0.length : Int) := of_decide_eq_true (by first | (with_reducible assumption) | assumption); obtain ⟨ad299, e299, hx299_0, hx299_1⟩ := at_T44 HR0.out x10_2 p299 q299; obtain rfl : ad295 = ad299 := (by injection e299); replace p299 := eq_true p299; replace q299 := eq_true q299))
          go_ret2
          exact ⟨by first | rfl | (simp; done) | (simp [*]; done), by repeat (first | exact Drawn0.refl _ | apply Drawn0.step)⟩
         ·rw [if_neg c13] at H
          have c13b0 : (t297.toList == a1.toList) = false := beq_eq_false_iff_ne.mpr c13
          have c13b1 : (t297.toList != a1.toList) = true := bne_iff_ne.mpr c13
          have H' := Aside0.mk H
          clear H
          have p295 : 0 ≤ (x10_2 : Int) := of_decide_eq_true (by first | (with_reducible assumption) | assumption)
          have q295 : x10_2 < (l0.length : Int) := of_decide_eq_true (by first | (with_reducible assumption) | assumption)
          obtain ⟨ad295, e295, hx295_0, hx295_1⟩ := at_T44 HR0.out x10_2 p295 q295
          cases e295
          replace p295 := eq_true p295
          replace q295 := eq_true q295
          have p296 : 0 ≤ (x10_2 : Int) := of_decide_eq_true (by first | (with_reducible assumption) | assumption)
          have q296 : x10_2 < (l0.length : Int) := of_decide_eq_true (by first | (with_reducible assumption) | assumption)
          obtain ⟨ad296, e296, hx296_0, hx296_1⟩ := at_T44 HR0.out x10_2 p296 q296
          obtain rfl : ad295 = ad296 := (by injection e296)
          replace p296 := eq_true p296
          replace q296 := eq_true q296
          go_wp2_with (first | ((with_reducible refine gate_callee (f := 20) rfl ?_); refine goesL_ (some 41) rfl rfl Tryd.func20 (by kernel_rfl) rfl #[.slice (some ad295) l0.length c0, .string ((rd_T44 l0 x10_2).f0)] rfl (by (try simp only [List.map_toArray, List.map_cons, List.map_nil]); first | done | rfl | (simp only [List.length_drop, List.length_take]; rfl)) ?_; (with_reducible refine (spec_SpaceOf.calls k2 _ _ l0 ((rd_T44 l0 x10_2).f0) t297 true _ ?side1 ?side2 A11.out).mono ?_); (case side1 => repeat (first | exact HR0.out | (with_reducible refine Kd.C_alloc ?_ _) | (with_reducible refine Kd.C_drewN ?_ _) | (with_reducible refine Kd.C_drew ?_))); (case side2 => exact HC0.out); rintro e w' ⟨rfl, ⟨nd, rfl⟩⟩; refine ⟨_, rfl, ?_⟩))
          go_roundg k2
          case measure => have := HJ3.out; have := HK2.out; omega
          case rel => exact ⟨(wrap64 (x10_2 + 1)), (by first | rfl | (simp; done) | (simp [*]; done)), H', ⟨by have := HJ3.out; have := HK2.out; omega⟩, by repeat (first | exact Drawn0.refl _ | apply Drawn0.step)⟩
        ·replace c12 := Bool.eq_false_iff.mpr c12
         subst c12
         have H1 : (spec_PreFor.l0 k2 l0 a1 (wrap64 (x10_2 + 1))) = some (r1, r2) := by rw [if_neg (show ¬ (false = true) by decide)] at H; exact H
         clear H
         have H := H1
         clear H1
         have H' := Aside0.mk H
         clear H
         have p295 : 0 ≤ (x10_2 : Int) := of_decide_eq_true (by first | (with_reducible assumption) | assumption)
         have q295 : x10_2 < (l0.length : Int) := of_decide_eq_true (by first | (with_reducible assumption) | assumption)
         obtain ⟨ad295, e295, hx295_0, hx295_1⟩ := at_T44 HR0.out x10_2 p295 q295
         cases e295
         replace p295 := eq_true p295
         replace q295 := eq_true q295
         have p296 : 0 ≤ (x10_2 : Int) := of_decide_eq_true (by first | (with_reducible assumption) | assumption)
         have q296 : x10_2 < (l0.length : Int) := of_decide_eq_true (by first | (with_reducible assumption) | assumption)
         obtain ⟨ad296, e296, hx296_0, hx296_1⟩ := at_T44 HR0.out x10_2 p296 q296
         obtain rfl : ad295 = ad296 := (by injection e296)
         replace p296 := eq_true p296
         replace q296 := eq_true q296
         go_wp2_with (first | ((with_reducible refine gate_callee (f := 20) rfl ?_); refine goesL_ (some 41) rfl rfl Tryd.func20 (by kernel_rfl) rfl #[.slice (some ad295) l0.length c0, .string ((rd_T44 l0 x10_2).f0)] rfl (by (try simp only [List.map_toArray, List.map_cons, List.map_nil]); first | done | rfl | (simp only [List.length_drop, List.length_take]; rfl)) ?_; (with_reducible refine (spec_SpaceOf.calls k2 _ _ l0 ((rd_T44 l0 x10_2).f0) t297 false _ ?side1 ?side2 A11.out).mono ?_); (case side1 => repeat (first | exact HR0.out | (with_reducible refine Kd.C_alloc ?_ _) | (with_reducible refine Kd.C_drewN ?_ _) | (with_reducible refine Kd.C_drew ?_))); (case side2 => exact HC0.out); rintro e w' ⟨rfl, ⟨nd, rfl⟩⟩; refine ⟨_, rfl, ?_⟩))
         go_roundg k2
         case measure => have := HJ3.out; have := HK2.out; omega
         case rel => exact ⟨(wrap64 (x10_2 + 1)), (by first | rfl | (simp; done) | (simp [*]; done)), H', ⟨by have := HJ3.out; have := HK2.out; omega⟩, by repeat (first | exact Drawn0.refl _ | apply Drawn0.step)⟩
      ·rw [if_neg c9] at H
       exact absurd H (by simp)
     ·rw [if_neg c8] at H
      have c8b0 : decide (x10_2 < (l0.length : Int)) = false := decide_eq_false c8
      clear c8
      simp only [Option.some.injEq, Prod.mk.injEq] at H
      obtain ⟨rfl, rfl⟩ := H
      go_wp2
      go_ret2
      exact ⟨by first | rfl | (simp; done) | (simp [*]; done), by repeat (first | exact Drawn0.refl _ | apply Drawn0.step)⟩

/-! ### spec_DrawDeclsOk: function 19 -/
def spec_DrawDeclsOk.f (k : Nat) (l0 : List Int) : Option ((List (S44))) := (spec_l1New.f k l0).bind fun bt300 => ((spec_l4Any.f k bt300.1 bt300.2.1 bt300.2.2).bind fun bt304 => (some bt304.1))
set_option maxHeartbeats 8000000 in
set_option maxRecDepth 100000 in
theorem spec_DrawDeclsOk.calls (k : Nat) (A0 : Option Addr) (c0 : Nat) (l0 : List Int) (r : List (S44)) (w : World) (hr0 : Kd.C (Kd.int .u8) w A0 l0.length l0) (hc0 : l0.length ≤ c0) (h : spec_DrawDeclsOk.f k l0 = some r) :
  Calls Tryd.prog 19 #[.slice A0 l0.length c0] w fun e w' => ∃ v0_ : Value, e = .returned (v0_) ∧ Kd.R k44 44 w' w.heap.size (fun _ => True) v0_ r ∧ Below w.heap.size w w' := by
 have HR0 := Aside0.mk hr0
 have HC0 := Aside0.mk hc0
 clear hr0 hc0
 have HB := Aside0.mk (Below.refl w.heap.size w)
 have H : ((spec_l1New.f k l0).bind fun bt300 => ((spec_l4Any.f k bt300.1 bt300.2.1 bt300.2.2).bind fun bt304 => (some bt304.1))) = some r := h
 clear h
 replace H := Option.bind_eq_some_iff.mp H
 obtain ⟨⟨t300, t301, t302⟩, A20, H⟩ := H
 replace H : ((spec_l4Any.f k t300 t301 t302).bind fun bt304 => (some bt304.1)) = some r := H
 have A2 := Aside0.mk A20
 clear A20
 replace H := Option.bind_eq_some_iff.mp H
 obtain ⟨⟨t304, t307, t308⟩, A30, H⟩ := H
 replace H : (some t304) = some r := H
 have A3 := Aside0.mk A30
 clear A30
 obtain rfl := Option.some.inj H
 go_enter Tryd.func19, Tryd.ntmps19
 go_wp2_with (first | ((with_reducible refine gate_callee (f := 24) rfl ?_); refine goesL_ (some 5) rfl rfl Tryd.func24 (by kernel_rfl) rfl #[.slice A0 l0.length c0] rfl (by (try simp only [List.map_toArray, List.map_cons, List.map_nil]); first | done | rfl | (simp only [List.length_drop, List.length_take]; rfl)) ?_; (with_reducible refine (spec_l1New.calls k _ _ l0 t300 t301 t302 w _ ?side1 ?side2 ?side3 A2.out).mono ?_); (case side1 => repeat (first|(with_reducible first|exact HB.out|apply zA|apply zN|apply zD) | exact HB.out)); (case side2 => exact HR0.out); (case side3 => exact HC0.out); rintro e w4 ⟨g303, rfl, hi, hb, hb2⟩; refine ⟨_, rfl, ?_⟩; have n0_ := Aside0.mk (hb); have n1_ := Aside0.mk (hi); clear HB; have HB := n0_; have HI303 := n1_; clear n0_ n1_; (try clear hb); (try clear hb2); (try clear hk); (try clear hi)) | ((with_reducible refine gate_callee (f := 33) rfl ?_); refine goesL_ (some 7) rfl rfl Tryd.func33 (by kernel_rfl) rfl #[.pointer (some ⟨g303, 0, none⟩)] rfl (by (try simp only [List.map_toArray, List.map_cons, List.map_nil]); first | done | rfl | (simp only [List.length_drop, List.length_take]; rfl)) ?_; (with_reducible refine (spec_l4Any.calls k g303 t300 t301 t302 t304 t307 t308 w _ ?side1 ?side2 A3.out).mono ?_); (case side1 => repeat (first|(with_reducible first|exact HI303.out | apply IsS67.alloc | apply IsS67.drewN | apply IsS67.drew | apply IsS67.set_1 | apply IsS67.set_2) | exact HI303.out)); (case side2 => repeat (first|(with_reducible first|exact HB.out|apply zA|apply zN|apply zD | refine below_set ?_ (IsS67.ge HI303.out)) | exact HB.out)); rintro e w5 ⟨v305, rfl, ho0, hi, hb, hk⟩; refine ⟨_, rfl, ?_⟩; have n0_ := Aside0.mk (Kd.R_lower ho0 (below_size (by repeat (first|(with_reducible first|exact HB.out|apply zA|apply zN|apply zD | refine below_set ?_ (IsS67.ge HI303.out)) | exact HB.out)))); have n1_ := Aside0.mk (hb); have n2_ := Aside0.mk (hi); clear HB; clear HI303; have HO306 := n0_; have HB := n1_; have HI303 := n2_; clear n0_ n1_ n2_; (try clear hb); (try clear hb2); (try clear hk); (try clear hi); (try clear ho0)))
 go_ret
 exact ⟨_, by first | rfl | (simp [errW_none, errW_some] <;> rfl) | (simp [*, errW_none, errW_some] <;> rfl), by (with_reducible repeat (first|apply rA|apply rN|apply rD)); exact HO306.out, by repeat (first|(with_reducible first|exact HB.out|apply zA|apply zN|apply zD | refine below_set ?_ (IsS67.ge HI303.out)) | exact HB.out)⟩

/-! ### impl_in: function 28 -/
def impl_in.f (a0 : Int) (a1 : Int) (a2 : Int) : Option (Bool) := if a0 ≥ a1 then (some (decide (a0 ≤ a2))) else (some false)
set_option maxHeartbeats 8000000 in
set_option maxRecDepth 100000 in
theorem impl_in.calls (a0 : Int) (a1 : Int) (a2 : Int) (r : Bool) (w : World) (h : impl_in.f a0 a1 a2 = some r) :
  Calls Tryd.prog 28 #[.int .i64 a0, .int .i64 a1, .int .i64 a2] w fun e w' => e = .returned (.bool r) ∧ Drawn0 w w' := by
 have H : (if a0 ≥ a1 then (some (decide (a0 ≤ a2))) else (some false)) = some r := h
 clear h
 by_cases c4 : a0 ≥ a1
 ·rw [if_pos c4] at H
  have c4b0 : decide (a1 ≤ a0) = true := decide_eq_true c4
  clear c4
  obtain rfl := Option.some.inj H
  go_enter Tryd.func28, Tryd.ntmps28
  go_wp2
  go_ret
  exact ⟨by first | rfl | (simp; done) | (simp [*]; done), by repeat (first | exact Drawn0.refl _ | apply Drawn0.step)⟩
 ·rw [if_neg c4] at H
  have c4b0 : decide (a1 ≤ a0) = false := decide_eq_false c4
  clear c4
  obtain rfl := Option.some.inj H
  go_enter Tryd.func28, Tryd.ntmps28
  go_wp2
  go_ret
  exact ⟨by first | rfl | (simp; done) | (simp [*]; done), by repeat (first | exact Drawn0.refl _ | apply Drawn0.step)⟩

/-! ### utf8_DecodeRuneInString: function 29 -/
def utf8_DecodeRuneInString.f (a0 : ByteArray) : Option (Int × Int) := some (((Lib.decodeGo a0).1 : Int), ((Lib.decodeGo a0).2 : Int))
theorem utf8_DecodeRuneInString.calls (a0 : ByteArray) (r1 : Int) (r2 : Int) (w : World) (hTab : Tabs w) (h : utf8_DecodeRuneInString.f a0 = some (r1, r2)) :
    Calls Tryd.prog 29 #[.string a0] w fun e w' => e = .returned (.tuple #[.int .i32 r1, .int .i64 r2]) ∧ Below w.heap.size w w' := by
  unfold utf8_DecodeRuneInString.f at h
  simp only [Option.some.injEq, Prod.mk.injEq] at h
  obtain ⟨rfl, rfl⟩ := h
  exact Tryd.utf8_DecodeRuneInString a0 w hTab.u8

/-! ### impl_SignAt: function 8 -/
def impl_SignAt.f (a0 : ByteArray) (a1 : Int) : Option (Int × Int × Bool) := (impl_in.f a1 0 (wrap64 ((a0.size : Int) - 1))).bind fun t309 => (if t309 = true then (if 0 ≤ a1 then (if a1 ≤ (a0.size : Int) then ((utf8_DecodeRuneInString.f (a0.extract (a1 : Int).toNat a0.size)).bind fun bt310 => (if bt310.1 = 65533 then (if bt310.2 ≤ 1 then (some (0, 0, false)) else (some (wrap64 (bt310.1), wrap64 (a1 + bt310.2), true))) else (some (wrap64 (bt310.1), wrap64 (a1 + bt310.2), true)))) else (none)) else (none)) else (some (0, 0, false)))
set_option maxHeartbeats 8000000 in
set_option maxRecDepth 100000 in
theorem impl_SignAt.calls (a0 : ByteArray) (a1 : Int) (r1 : Int) (r2 : Int) (r3 : Bool) (w : World) (hTab : Tabs w) (h : impl_SignAt.f a0 a1 = some (r1, r2, r3)) :
  Calls Tryd.prog 8 #[.string a0, .int .i64 a1] w fun e w' => e = .returned (.tuple #[.int .i64 r1, .int .i64 r2, .bool r3]) ∧ Below w.heap.size w w' := by
 have HT := Aside0.mk hTab
 clear hTab
 have HB := Aside0.mk (Below.refl w.heap.size w)
 have H : ((impl_in.f a1 0 (wrap64 ((a0.size : Int) - 1))).bind fun t309 => (if t309 = true then (if 0 ≤ a1 then (if a1 ≤ (a0.size : Int) then ((utf8_DecodeRuneInString.f (a0.extract (a1 : Int).toNat a0.size)).bind fun bt310 => (if bt310.1 = 65533 then (if bt310.2 ≤ 1 then (some (0, 0, false)) else (some (wrap64 (bt310.1), wrap64 (a1 + bt310.2), true))) else (some (wrap64 (bt310.1), wrap64 (a1 + bt310.2), true)))) else (none)) else (none)) else (some (0, 0, false)))) = some (r1, r2, r3) := h
 clear h
 replace H := Option.bind_eq_some_iff.mp H
 obtain ⟨t309, A30, H⟩ := H
 replace H : (if t309 = true then (if 0 ≤ a1 then (if a1 ≤ (a0.size : Int) then ((utf8_DecodeRuneInString.f (a0.extract (a1 : Int).toNat a0.size)).bind fun bt310 => (if bt310.1 = 65533 then (if bt310.2 ≤ 1 then (some (0, 0, false)) else (some (wrap64 (bt310.1), wrap64 (a1 + bt310.2), true))) else (some (wrap64 (bt310.1), wrap64 (a1 + bt310.2), true)))) else (none)) else (none)) else (some (0, 0, false))) = some (r1, r2, r3) := H
 have A3 := Aside0.mk A30
 clear A30
 by_cases c4 : t309 = true
 ·subst c4
  have H1 : (if 0 ≤ a1 then (if a1 ≤ (a0.size : Int) then ((utf8_DecodeRuneInString.f (a0.extract (a1 : Int).toNat a0.size)).bind fun bt310 => (if bt310.1 = 65533 then (if bt310.2 ≤ 1 then (some (0, 0, false)) else (some (wrap64 (bt310.1), wrap64 (a1 + bt310.2), true))) else (some (wrap64 (bt310.1), wrap64 (a1 + bt310.2), true)))) else (none)) else (none)) = some (r1, r2, r3) := by rw [if_pos rfl] at H; exact H
  clear H
  have H := H1
  clear H1
  by_cases c5 : 0 ≤ a1
  ·rw [if_pos c5] at H
   have c5b0 := eq_true c5
   have c5b1 : decide (0 ≤ a1) = true := decide_eq_true c5
   clear c5
   by_cases c6 : a1 ≤ (a0.size : Int)
   ·rw [if_pos c6] at H
    have c6b0 := eq_true c6
    have c6b1 : decide (a1 ≤ (a0.size : Int)) = true := decide_eq_true c6
    clear c6
    replace H := Option.bind_eq_some_iff.mp H
    obtain ⟨⟨t310, t311⟩, A70, H⟩ := H
    replace H : (if t310 = 65533 then (if t311 ≤ 1 then (some (0, 0, false)) else (some (wrap64 (t310), wrap64 (a1 + t311), true))) else (some (wrap64 (t310), wrap64 (a1 + t311), true))) = some (r1, r2, r3) := H
    have A7 := Aside0.mk A70
    clear A70
    by_cases c8 : t310 = 65533
    ·rw [if_pos c8] at H
     have c8b0 : (t310 == 65533) = true := beq_iff_eq.mpr c8
     have c8b1 : (t310 != 65533) = false := bne_eq_false_iff_eq.mpr c8
     clear c8
     by_cases c9 : t311 ≤ 1
     ·rw [if_pos c9] at H
      have c9b0 : decide (t311 ≤ 1) = true := decide_eq_true c9
      clear c9
      simp only [Option.some.injEq, Prod.mk.injEq] at H
      obtain ⟨rfl, rfl, rfl⟩ := H
      go_enter Tryd.func8, Tryd.ntmps8
      go_wp2_with (first | ((with_reducible refine gate_callee (f := 28) rfl ?_); refine goesL_ (some 13) rfl rfl Tryd.func28 (by kernel_rfl) rfl #[.int .i64 a1, .int .i64 0, .int .i64 (wrap64 ((a0.size : Int) - 1))] rfl (by (try simp only [List.map_toArray, List.map_cons, List.map_nil]); first | done | rfl | (simp only [List.length_drop, List.length_take]; rfl)) ?_; (with_reducible refine (impl_in.calls a1 0 (wrap64 ((a0.size : Int) - 1)) true _ A3.out).mono ?_); rintro e w' ⟨rfl, ⟨nd, rfl⟩⟩; refine ⟨_, rfl, ?_⟩) | ((with_reducible refine gate_callee (f := 29) rfl ?_); refine goesL_ (some 19) rfl rfl Tryd.func29 (by kernel_rfl) rfl #[.string (a0.extract (a1 : Int).toNat a0.size)] rfl (by (try simp only [List.map_toArray, List.map_cons, List.map_nil]); first | done | rfl | (simp only [List.length_drop, List.length_take]; rfl)) ?_; (with_reducible refine (utf8_DecodeRuneInString.calls (a0.extract (a1 : Int).toNat a0.size) t310 t311 _ ?tabs A7.out).mono ?_); (case tabs => first | exact Tabs.below HT.out (by repeat (first|(with_reducible first|exact HB.out|apply zA|apply zN|apply zD) | exact HB.out)) | (repeat (first | exact HT.out | (with_reducible refine Tabs.drewN ?_ _) | (with_reducible refine Tabs.drew ?_) | (with_reducible refine Tabs.alloc ?_ _)))); rintro e w10 ⟨rfl, hb⟩; refine ⟨_, rfl, ?_⟩; have n0_ := Aside0.mk (below_step (by repeat (first|(with_reducible first|exact HB.out|apply zA|apply zN|apply zD) | exact HB.out)) hb); clear HB; have HB := n0_; clear n0_; (try clear hb); (try clear hb2); (try clear hk); (try clear hi)))
      go_ret3
      exact ⟨by first | rfl | (simp [errW_none, errW_some] <;> rfl) | (simp [*, errW_none, errW_some] <;> rfl), by repeat (first|(with_reducible first|exact HB.out|apply zA|apply zN|apply zD) | exact HB.out)⟩
     ·rw [if_neg c9] at H
      have c9b0 : decide (t311 ≤ 1) = false := decide_eq_false c9
      clear c9
      simp only [Option.some.injEq, Prod.mk.injEq] at H
      obtain ⟨rfl, rfl, rfl⟩ := H
      go_enter Tryd.func8, Tryd.ntmps8
      go_wp2_with (first | ((with_reducible refine gate_callee (f := 28) rfl ?_); refine goesL_ (some 13) rfl rfl Tryd.func28 (by kernel_rfl) rfl #[.int .i64 a1, .int .i64 0, .int .i64 (wrap64 ((a0.size : Int) - 1))] rfl (by (try simp only [List.map_toArray, List.map_cons, List.map_nil]); first | done | rfl | (simp only [List.length_drop, List.length_take]; rfl)) ?_; (with_reducible refine (impl_in.calls a1 0 (wrap64 ((a0.size : Int) - 1)) true _ A3.out).mono ?_); rintro e w' ⟨rfl, ⟨nd, rfl⟩⟩; refine ⟨_, rfl, ?_⟩) | ((with_reducible refine gate_callee (f := 29) rfl ?_); refine goesL_ (some 19) rfl rfl Tryd.func29 (by kernel_rfl) rfl #[.string (a0.extract (a1 : Int).toNat a0.size)] rfl (by (try simp only [List.map_toArray, List.map_cons, List.map_nil]); first | done | rfl | (simp only [List.length_drop, List.length_take]; rfl)) ?_; (with_reducible refine (utf8_DecodeRuneInString.calls (a0.extract (a1 : Int).toNat a0.size) t310 t311 _ ?tabs A7.out).mono ?_); (case tabs => first | exact Tabs.below HT.out (by repeat (first|(with_reducible first|exact HB.out|apply zA|apply zN|apply zD) | exact HB.out)) | (repeat (first | exact HT.out | (with_reducible refine Tabs.drewN ?_ _) | (with_reducible refine Tabs.drew ?_) | (with_reducible refine Tabs.alloc ?_ _)))); rintro e w11 ⟨rfl, hb⟩; refine ⟨_, rfl, ?_⟩; have n0_ := Aside0.mk (below_step (by repeat (first|(with_reducible first|exact HB.out|apply zA|apply zN|apply zD) | exact HB.out)) hb); clear HB; have HB := n0_; clear n0_; (try clear hb); (try clear hb2); (try clear hk); (try clear hi)))
      go_ret3
      exact ⟨by first | rfl | (simp [errW_none, errW_some] <;> rfl) | (simp [*, errW_none, errW_some] <;> rfl), by repeat (first|(with_reducible first|exact HB.out|apply zA|apply zN|apply zD) | exact HB.out)⟩
    ·rw [if_neg c8] at H
     have c8b0 : (t310 == 65533) = false := beq_eq_false_iff_ne.mpr c8
     have c8b1 : (t310 != 65533) = true := bne_iff_ne.mpr c8
     simp only [Option.some.injEq, Prod.mk.injEq] at H
     obtain ⟨rfl, rfl, rfl⟩ := H
     go_enter Tryd.func8, Tryd.ntmps8
     go_wp2_with (first | ((with_reducible refine gate_callee (f := 28) rfl ?_); refine goesL_ (some 13) rfl rfl Tryd.func28 (by kernel_rfl) rfl #[.int .i64 a1, .int .i64 0, .int .i64 (wrap64 ((a0.size : Int) - 1))] rfl (by (try simp only [List.map_toArray, List.map_cons, List.map_nil]); first | done | rfl | (simp only [List.length_drop, List.length_take]; rfl)) ?_; (with_reducible refine (impl_in.calls a1 0 (wrap64 ((a0.size : Int) - 1)) true _ A3.out).mono ?_); rintro e w' ⟨rfl, ⟨nd, rfl⟩⟩; refine ⟨_, rfl, ?_⟩) | ((with_reducible refine gate_callee (f := 29) rfl ?_); refine goesL_ (some 19) rfl rfl Tryd.func29 (by kernel_rfl) rfl #[.string (a0.extract (a1 : Int).toNat a0.size)] rfl (by (try simp only [List.map_toArray, List.map_cons, List.map_nil]); first | done | rfl | (simp only [List.length_drop, List.length_take]; rfl)) ?_; (with_reducible refine (utf8_DecodeRuneInString.calls (a0.extract (a1 : Int).toNat a0.size) t310 t311 _ ?tabs A7.out).mono ?_); (case tabs => first | exact Tabs.below HT.out (by repeat (first|(with_reducible first|exact HB.out|apply zA|apply zN|apply zD) | exact HB.out)) | (repeat (first | exact HT.out | (with_reducible refine Tabs.drewN ?_ _) | (with_reducible refine Tabs.drew ?_) | (with_reducible refine Tabs.alloc ?_ _)))); rintro e w12 ⟨rfl, hb⟩; refine ⟨_, rfl, ?_⟩; have n0_ := Aside0.mk (below_step (by repeat (first|(with_reducible first|exact HB.out|apply zA|apply zN|apply zD) | exact HB.out)) hb); clear HB; have HB := n0_; clear n0_; (try clear hb); (try clear hb2); (try clear hk); (try clear hi)))
     go_ret3
     exact ⟨by first | rfl | (simp [errW_none, errW_some] <;> rfl) | (simp [*, errW_none, errW_some] <;> rfl), by repeat (first|(with_reducible first|exact HB.out|apply zA|apply zN|apply zD) | exact HB.out)⟩
   ·rw [if_neg c6] at H
    exact absurd H (by simp)
  ·rw [if_neg c5] at H
   exact absurd H (by simp)
 ·replace c4 := Bool.eq_false_iff.mpr c4
  subst c4
  have H1 : (some (0, 0, false)) = some (r1, r2, r3) := by rw [if_neg (show ¬ (false = true) by decide)] at H; exact H
  clear H
  have H := H1
  clear H1
  simp only [Option.some.injEq, Prod.mk.injEq] at H
  obtain ⟨rfl, rfl, rfl⟩ := H
  go_enter Tryd.func8, Tryd.ntmps8
  go_wp2_with (first | ((with_reducible refine gate_callee (f := 28) rfl ?_); refine goesL_ (some 13) rfl rfl Tryd.func28 (by kernel_rfl) rfl #[.int .i64 a1, .int .i64 0, .int .i64 (wrap64 ((a0.size : Int) - 1))] rfl (by (try simp only [List.map_toArray, List.map_cons, List.map_nil]); first | done | rfl | (simp only [List.length_drop, List.length_take]; rfl)) ?_; (with_reducible refine (impl_in.calls a1 0 (wrap64 ((a0.size : Int) - 1)) false _ A3.out).mono ?_); rintro e w' ⟨rfl, ⟨nd, rfl⟩⟩; refine ⟨_, rfl, ?_⟩))
  go_ret3
  exact ⟨by first | rfl | (simp [errW_none, errW_some] <;> rfl) | (simp [*, errW_none, errW_some] <;> rfl), by repeat (first|(with_reducible first|exact HB.out|apply zA|apply zN|apply zD) | exact HB.out)⟩

end Go.Proofs.YtehlkajccnmddaaDoor.PZ
