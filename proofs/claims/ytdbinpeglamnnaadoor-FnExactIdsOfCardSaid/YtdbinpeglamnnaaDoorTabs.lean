/- What the program reads of Go's library's own variables: utf8's two tables, one whole number, and what asciiFold tells of six letters.
Conditions: none. -/
import Derived.Shelf.Unicode.DecodeSlow
import Derived.Test.YtdbinpeglamnnaaDoorWWords
namespace Go.Proofs.YtdbinpeglamnnaaDoor
open Go.RowKit Go.Proofs.YtdbinpeglamnnaaDoorW.PrintWords
def MaxCell (w : World) : Prop := ∃ m, w.cell? ⟨0, 0, none⟩ = some (.int .i64 m)
theorem MaxCell.below {w W : World} (h : MaxCell w) (hb : Below w.heap.size w W) : MaxCell W := h.imp fun _ h => pw_cell_below hb h
/-- What asciiFold tells of x, m, l, X, M, L. -/
def FoldCell (_w : World) : Prop := True
theorem FoldCell.below {w W : World} (_ : FoldCell w) (_ : Below w.heap.size w W) : FoldCell W := trivial
def Tabs (w : World) : Prop := Lib.Utf8Tabs 1 2 w ∧ MaxCell w ∧ FoldCell w
theorem Tabs.u8 {w : World} (h : Tabs w) : Lib.Utf8Tabs 1 2 w := h.1
theorem Tabs.maxlen {w : World} (h : Tabs w) : ∃ m, w.cell? ⟨0, 0, none⟩ = some (.int .i64 m) := h.2.1
theorem Tabs.fold {w : World} (h : Tabs w) : FoldCell w := h.2.2
theorem Tabs.below {w W : World} (h : Tabs w) (hb : Below w.heap.size w W) : Tabs W := by
  obtain ⟨⟨h1, h2⟩, h3, h4⟩ := h
  exact ⟨⟨fun c hc => pw_cell_below hb (h1 c hc), fun i hi => ⟨pw_cell_below hb (h2 i hi).1, pw_cell_below hb (h2 i hi).2⟩⟩, h3.below hb, h4.below hb⟩
theorem Tabs.alloc {w : World} (h : Tabs w) (o : Obj) : Tabs (w.alloc o) := h.below (below_alloc (Below.refl _ _) o)
theorem Tabs.drewN {w : World} (h : Tabs w) (n : Nat) : Tabs (w.drewN n) := h.below (pw_below_drewN (Below.refl _ _) n)
theorem Tabs.drew {w : World} (h : Tabs w) : Tabs w.drew := h.below (below_drew (Below.refl _ _))
end Go.Proofs.YtdbinpeglamnnaaDoor
