/- What the program reads of Go's library's own variables: utf8's two tables, and one whole number.
Conditions: none. -/
import Derived.Shelf.Unicode.DecodeSlow
import Derived.Test.YtgchgcfjbjopkaaDoorWWords
namespace Go.Proofs.YtgchgcfjbjopkaaDoor
open Go.RowKit Go.Proofs.YtgchgcfjbjopkaaDoorW.PrintWords
def Tabs (w : World) : Prop := Lib.Utf8Tabs 1 2 w ∧ ∃ m, w.cell? ⟨0, 0, none⟩ = some (.int .i64 m)
theorem Tabs.below {w W : World} (h : Tabs w) (hb : Below w.heap.size w W) : Tabs W := by
  obtain ⟨⟨h1, h2⟩, m, h3⟩ := h
  exact ⟨⟨fun c hc => pw_cell_below hb (h1 c hc), fun i hi => ⟨pw_cell_below hb (h2 i hi).1, pw_cell_below hb (h2 i hi).2⟩⟩, m, pw_cell_below hb h3⟩
theorem Tabs.alloc {w : World} (h : Tabs w) (o : Obj) : Tabs (w.alloc o) := h.below (below_alloc (Below.refl _ _) o)
theorem Tabs.drewN {w : World} (h : Tabs w) (n : Nat) : Tabs (w.drewN n) := h.below (pw_below_drewN (Below.refl _ _) n)
theorem Tabs.drew {w : World} (h : Tabs w) : Tabs w.drew := h.below (below_drew (Below.refl _ _))
end Go.Proofs.YtgchgcfjbjopkaaDoor
