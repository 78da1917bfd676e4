/-
  DERIVED. GIVEN WITH THE SEED: THE CARDS: each row of YtehlkajccnmddaaDoorRows.lean that lists a variable, with what it lists TIED to the program's text (the seventh form; the later family's looks); each row that meets fmt, with fmt's text TOLD by the authors' own Lean function (tested against real Go, not proved from fmt's source: count such statements apart). THE CARD IS WHAT COUNTS. Prove the row's statement (the work); the ties are given (YtehlkajccnmddaaDoorTie.lean); close each card by the builder's one call (the guide's Derived/Test/ToyasCard.lean, 'card_holds'). Laid BY PROGRAM, IN A SANDBOX (cutbox-door.mjs). By AI agents, Wed Nov 11 2026. No macro, syntax, notation, axiom, sorry.
-/
import Derived.Test.YtehlkajccnmddaaDoorRows
import GoSem.ClaimSeven
namespace Go.Proofs.YtehlkajccnmddaaDoor
namespace Rows

/-- THE TIED CARD OF 'laws.FnSigns'. -/
def fnSignsCard : Claim7 := { stood := { row := fnSignsRow, standIns := [], harness := (true, "19231c267ea0840da4fb309837c7a3dfd07dc3dc66923f223281dad89185a98a"), looks := false }, kinds := [], alts := [], laidByText := true, laidKinds := [.data, .pinned], laidTests := true, laidLooks := .later }
def FnSignsCardSaid : Prop := Claim7.holds Tryd.pinned (.plain (OpenSpec.ofChange fnSignsSpec)) fnSignsCard

/-- THE TIED CARD OF 'laws.FnScopes'. -/
def fnScopesCard : Claim7 := { stood := { row := fnScopesRow, standIns := [], harness := (true, "19231c267ea0840da4fb309837c7a3dfd07dc3dc66923f223281dad89185a98a"), looks := false }, kinds := [], alts := [], laidByText := true, laidKinds := [.data, .pinned], laidTests := true, laidLooks := .later }
def FnScopesCardSaid : Prop := Claim7.holds Tryd.pinned (.plain (OpenSpec.ofChange fnScopesSpec)) fnScopesCard

/-- THE SECOND FORM's CARD OF 'laws.FnSigns'. -/
def fnSignsUptoCard : Claim7 := { stood := { row := fnSignsUptoRow, standIns := [], harness := (true, "19231c267ea0840da4fb309837c7a3dfd07dc3dc66923f223281dad89185a98a"), looks := false }, kinds := [], alts := [], laidByText := true, laidKinds := [.data, .pinned], laidTests := true, laidLooks := .later }
def FnSignsUptoCardSaid : Prop := Claim7.holds Tryd.pinned (.plain (OpenSpec.upto fnSignsSpec)) fnSignsUptoCard

/-- THE SECOND FORM's CARD OF 'laws.FnScopes'. -/
def fnScopesUptoCard : Claim7 := { stood := { row := fnScopesUptoRow, standIns := [], harness := (true, "19231c267ea0840da4fb309837c7a3dfd07dc3dc66923f223281dad89185a98a"), looks := false }, kinds := [], alts := [], laidByText := true, laidKinds := [.data, .pinned], laidTests := true, laidLooks := .later }
def FnScopesUptoCardSaid : Prop := Claim7.holds Tryd.pinned (.plain (OpenSpec.upto fnScopesSpec)) fnScopesUptoCard
end Rows
end Go.Proofs.YtehlkajccnmddaaDoor
