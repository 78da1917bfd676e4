/- What the program reads of Go's library's own variables: utf8's two tables, and one whole number.
Conditions: none. -/
import Derived.Shelf.Unicode.DecodeSlow
import Derived.Test.YtehlkajccnmddaaDoorWWords
namespace Go.Proofs.YtehlkajccnmddaaDoor
open Go.RowKit Go.Proofs.YtehlkajccnmddaaDoorW.PrintWords
def MaxCell (_w : World) : Prop := True
def Tabs (w : World) : Prop := Lib.Utf8Tabs 0 1 w ∧ MaxCell w
theorem Tabs.u8 {w : World} (h : Tabs w) : Lib.Utf8Tabs 0 1 w := h.1
theorem Tabs.below {w W : World} (h : Tabs w) (hb : Below w.heap.size w W) : Tabs W := by
  obtain ⟨⟨h1, h2⟩, h3⟩ := h
  exact ⟨⟨fun c hc => pw_cell_below hb (h1 c hc), fun i hi => ⟨pw_cell_below hb (h2 i hi).1, pw_cell_below hb (h2 i hi).2⟩⟩, trivial⟩
theorem Tabs.alloc {w : World} (h : Tabs w) (o : Obj) : Tabs (w.alloc o) := h.below (below_alloc (Below.refl _ _) o)
theorem Tabs.drewN {w : World} (h : Tabs w) (n : Nat) : Tabs (w.drewN n) := h.below (pw_below_drewN (Below.refl _ _) n)
theorem Tabs.drew {w : World} (h : Tabs w) : Tabs w.drew := h.below (below_drew (Below.refl _ _))
end Go.Proofs.YtehlkajccnmddaaDoor
