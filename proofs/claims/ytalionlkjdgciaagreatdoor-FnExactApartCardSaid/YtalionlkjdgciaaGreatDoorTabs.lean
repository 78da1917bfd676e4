/- What the program reads of Go's library's own variables: utf8's two tables, one whole number, and what asciiFold tells of six letters.
Conditions: none. -/
import Derived.Shelf.Unicode.DecodeSlow
import Derived.Test.YtalionlkjdgciaaGreatDoorWWords
namespace Go.Proofs.YtalionlkjdgciaaGreatDoor
open Go.RowKit Go.Proofs.YtalionlkjdgciaaGreatDoorW.PrintWords
def MaxCell (w : World) : Prop := ∃ m, w.cell? ⟨5, 0, none⟩ = some (.int .i64 m)
theorem MaxCell.below {w W : World} (h : MaxCell w) (hb : Below w.heap.size w W) : MaxCell W := h.imp fun _ h => pw_cell_below hb h
/-- What asciiFold tells of x, m, l, X, M, L. -/
def FoldCell (w : World) : Prop := w.cell? ⟨0, 120, none⟩ = some (.int .u16 88) ∧ w.cell? ⟨0, 109, none⟩ = some (.int .u16 77) ∧ w.cell? ⟨0, 108, none⟩ = some (.int .u16 76) ∧ w.cell? ⟨0, 88, none⟩ = some (.int .u16 120) ∧ w.cell? ⟨0, 77, none⟩ = some (.int .u16 109) ∧ w.cell? ⟨0, 76, none⟩ = some (.int .u16 108)
theorem FoldCell.below {w W : World} (h : FoldCell w) (hb : Below w.heap.size w W) : FoldCell W := ⟨pw_cell_below hb h.1, pw_cell_below hb h.2.1, pw_cell_below hb h.2.2.1, pw_cell_below hb h.2.2.2.1, pw_cell_below hb h.2.2.2.2.1, pw_cell_below hb h.2.2.2.2.2⟩
def Tabs (w : World) : Prop := Lib.Utf8Tabs 3 4 w ∧ MaxCell w ∧ FoldCell w
theorem Tabs.u8 {w : World} (h : Tabs w) : Lib.Utf8Tabs 3 4 w := h.1
theorem Tabs.maxlen {w : World} (h : Tabs w) : ∃ m, w.cell? ⟨5, 0, none⟩ = some (.int .i64 m) := h.2.1
theorem Tabs.fold {w : World} (h : Tabs w) : FoldCell w := h.2.2
theorem Tabs.below {w W : World} (h : Tabs w) (hb : Below w.heap.size w W) : Tabs W := by
  obtain ⟨⟨h1, h2⟩, h3, h4⟩ := h
  exact ⟨⟨fun c hc => pw_cell_below hb (h1 c hc), fun i hi => ⟨pw_cell_below hb (h2 i hi).1, pw_cell_below hb (h2 i hi).2⟩⟩, h3.below hb, h4.below hb⟩
theorem Tabs.alloc {w : World} (h : Tabs w) (o : Obj) : Tabs (w.alloc o) := h.below (below_alloc (Below.refl _ _) o)
theorem Tabs.drewN {w : World} (h : Tabs w) (n : Nat) : Tabs (w.drewN n) := h.below (pw_below_drewN (Below.refl _ _) n)
theorem Tabs.drew {w : World} (h : Tabs w) : Tabs w.drew := h.below (below_drew (Below.refl _ _))
end Go.Proofs.YtalionlkjdgciaaGreatDoor
