/-
  DERIVED. GIVEN WITH THE SEED: THE CARDS: each row of YtalionlkjdgciaaGreatDoorRows.lean that lists a variable, with what it lists TIED to the program's text (the seventh form; the later family's looks); each row that meets fmt, with fmt's text TOLD by the authors' own Lean function (tested against real Go, not proved from fmt's source: count such statements apart). THE CARD IS WHAT COUNTS. Prove the row's statement (the work); the ties are given (YtalionlkjdgciaaGreatDoorTie.lean); close each card by the builder's one call (the guide's Derived/Test/ToyasCard.lean, 'card_holds'). Laid BY PROGRAM, IN A SANDBOX (cutbox-door.mjs). By AI agents, Wed Nov 11 2026. No macro, syntax, notation, axiom, sorry.
-/
import Derived.Test.YtalionlkjdgciaaGreatDoorRows
import GoSem.ClaimSeven
namespace Go.Proofs.YtalionlkjdgciaaGreatDoor
namespace Rows

/-- THE TIED CARD OF 'laws.FnNodes'. -/
def fnNodesCard : Claim7 := { stood := { row := fnNodesRow, standIns := [], harness := (true, "9328eda592b01d5fbb8ca1a95bd8b408e8900bf94ea5456fc130c602ecf54b18"), looks := false }, kinds := [], alts := [], laidByText := true, laidKinds := [.data, .data, .data, .pinned, .pinned], laidTests := true, laidLooks := .later }
def FnNodesCardSaid : Prop := Claim7.holds Tryz.pinned (.plain (OpenSpec.ofChange fnNodesSpec)) fnNodesCard

/-- THE TIED CARD OF 'laws.FnExactWriteAll'. -/
def fnExactWriteAllCard : Claim7 := { stood := { row := fnExactWriteAllRow, standIns := [], harness := (true, "9328eda592b01d5fbb8ca1a95bd8b408e8900bf94ea5456fc130c602ecf54b18"), looks := false }, kinds := [], alts := [], laidByText := true, laidKinds := [.data, .data, .data, .pinned, .pinned], laidTests := true, laidLooks := .later }
def FnExactWriteAllCardSaid : Prop := Claim7.holds Tryz.pinned (.plain (OpenSpec.ofChange fnExactWriteAllSpec)) fnExactWriteAllCard

/-- THE TIED CARD OF 'laws.FnExactHashOf'. -/
def fnExactHashOfCard : Claim7 := { stood := { row := fnExactHashOfRow, standIns := [], harness := (true, "9328eda592b01d5fbb8ca1a95bd8b408e8900bf94ea5456fc130c602ecf54b18"), looks := false }, kinds := [], alts := [], laidByText := true, laidKinds := [.data, .data, .data, .pinned, .pinned], laidTests := true, laidLooks := .later }
def FnExactHashOfCardSaid : Prop := Claim7.holds Tryz.pinned (.plain (OpenSpec.ofChange fnExactHashOfSpec)) fnExactHashOfCard

/-- THE TIED CARD OF 'laws.FnExactApart'. -/
def fnExactApartCard : Claim7 := { stood := { row := fnExactApartRow, standIns := [], harness := (true, "9328eda592b01d5fbb8ca1a95bd8b408e8900bf94ea5456fc130c602ecf54b18"), looks := false }, kinds := [], alts := [], laidByText := true, laidKinds := [.data, .data, .data, .pinned, .pinned], laidTests := true, laidLooks := .later }
def FnExactApartCardSaid : Prop := Claim7.holds Tryz.pinned (.plain (OpenSpec.ofChange fnExactApartSpec)) fnExactApartCard

/-- THE TIED CARD OF 'laws.FnHashes'. -/
def fnHashesCard : Claim7 := { stood := { row := fnHashesRow, standIns := [], harness := (true, "9328eda592b01d5fbb8ca1a95bd8b408e8900bf94ea5456fc130c602ecf54b18"), looks := false }, kinds := [], alts := [], laidByText := true, laidKinds := [.data, .data, .data, .pinned, .pinned], laidTests := true, laidLooks := .later }
def FnHashesCardSaid : Prop := Claim7.holds Tryz.pinned (.plain (OpenSpec.ofChange fnHashesSpec)) fnHashesCard

/-- THE SECOND FORM's CARD OF 'laws.FnNodes'. -/
def fnNodesUptoCard : Claim7 := { stood := { row := fnNodesUptoRow, standIns := [], harness := (true, "9328eda592b01d5fbb8ca1a95bd8b408e8900bf94ea5456fc130c602ecf54b18"), looks := false }, kinds := [], alts := [], laidByText := true, laidKinds := [.data, .data, .data, .pinned, .pinned], laidTests := true, laidLooks := .later }
def FnNodesUptoCardSaid : Prop := Claim7.holds Tryz.pinned (.plain (OpenSpec.upto fnNodesSpec)) fnNodesUptoCard

/-- THE SECOND FORM's CARD OF 'laws.FnExactWriteAll'. -/
def fnExactWriteAllUptoCard : Claim7 := { stood := { row := fnExactWriteAllUptoRow, standIns := [], harness := (true, "9328eda592b01d5fbb8ca1a95bd8b408e8900bf94ea5456fc130c602ecf54b18"), looks := false }, kinds := [], alts := [], laidByText := true, laidKinds := [.data, .data, .data, .pinned, .pinned], laidTests := true, laidLooks := .later }
def FnExactWriteAllUptoCardSaid : Prop := Claim7.holds Tryz.pinned (.plain (OpenSpec.upto fnExactWriteAllSpec)) fnExactWriteAllUptoCard

/-- THE SECOND FORM's CARD OF 'laws.FnExactHashOf'. -/
def fnExactHashOfUptoCard : Claim7 := { stood := { row := fnExactHashOfUptoRow, standIns := [], harness := (true, "9328eda592b01d5fbb8ca1a95bd8b408e8900bf94ea5456fc130c602ecf54b18"), looks := false }, kinds := [], alts := [], laidByText := true, laidKinds := [.data, .data, .data, .pinned, .pinned], laidTests := true, laidLooks := .later }
def FnExactHashOfUptoCardSaid : Prop := Claim7.holds Tryz.pinned (.plain (OpenSpec.upto fnExactHashOfSpec)) fnExactHashOfUptoCard

/-- THE SECOND FORM's CARD OF 'laws.FnExactApart'. -/
def fnExactApartUptoCard : Claim7 := { stood := { row := fnExactApartUptoRow, standIns := [], harness := (true, "9328eda592b01d5fbb8ca1a95bd8b408e8900bf94ea5456fc130c602ecf54b18"), looks := false }, kinds := [], alts := [], laidByText := true, laidKinds := [.data, .data, .data, .pinned, .pinned], laidTests := true, laidLooks := .later }
def FnExactApartUptoCardSaid : Prop := Claim7.holds Tryz.pinned (.plain (OpenSpec.upto fnExactApartSpec)) fnExactApartUptoCard

/-- THE SECOND FORM's CARD OF 'laws.FnHashes'. -/
def fnHashesUptoCard : Claim7 := { stood := { row := fnHashesUptoRow, standIns := [], harness := (true, "9328eda592b01d5fbb8ca1a95bd8b408e8900bf94ea5456fc130c602ecf54b18"), looks := false }, kinds := [], alts := [], laidByText := true, laidKinds := [.data, .data, .data, .pinned, .pinned], laidTests := true, laidLooks := .later }
def FnHashesUptoCardSaid : Prop := Claim7.holds Tryz.pinned (.plain (OpenSpec.upto fnHashesSpec)) fnHashesUptoCard
end Rows
end Go.Proofs.YtalionlkjdgciaaGreatDoor
