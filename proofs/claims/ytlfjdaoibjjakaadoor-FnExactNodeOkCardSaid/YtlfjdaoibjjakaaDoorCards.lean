/-
  DERIVED. GIVEN WITH THE SEED: THE CARDS: each row of YtlfjdaoibjjakaaDoorRows.lean that lists a variable, with what it lists TIED to the program's text (the seventh form; the later family's looks); each row that meets fmt, with fmt's text TOLD by the authors' own Lean function (tested against real Go, not proved from fmt's source: count such statements apart). THE CARD IS WHAT COUNTS. Prove the row's statement (the work); the ties are given (YtlfjdaoibjjakaaDoorTie.lean); close each card by the builder's one call (the guide's Derived/Test/ToyasCard.lean, 'card_holds'). Laid BY PROGRAM, IN A SANDBOX (cutbox-door.mjs). By AI agents, Wed Nov 11 2026. No macro, syntax, notation, axiom, sorry.
-/
import Derived.Test.YtlfjdaoibjjakaaDoorRows
import GoSem.ClaimSeven
namespace Go.Proofs.YtlfjdaoibjjakaaDoor
namespace Rows

/-- THE TIED CARD OF 'laws.FnExactNodeOk'. -/
def fnExactNodeOkCard : Claim7 := { stood := { row := fnExactNodeOkRow, standIns := [], harness := (true, "cb9be0726acba23454a2162f9a3cf172a7278e1a1c8de9bd6cd209157ca2805d"), looks := false }, kinds := [], alts := [], laidByText := true, laidKinds := [.data, .data, .data, .pinned, .pinned], laidTests := true, laidLooks := .later }
def FnExactNodeOkCardSaid : Prop := Claim7.holds Tryd.pinned (.plain (OpenSpec.ofChange fnExactNodeOkSpec)) fnExactNodeOkCard

/-- THE TIED CARD OF 'laws.FnExactIdsOf'. -/
def fnExactIdsOfCard : Claim7 := { stood := { row := fnExactIdsOfRow, standIns := [], harness := (true, "cb9be0726acba23454a2162f9a3cf172a7278e1a1c8de9bd6cd209157ca2805d"), looks := false }, kinds := [], alts := [], laidByText := true, laidKinds := [.data, .pinned], laidTests := true, laidLooks := .later }
def FnExactIdsOfCardSaid : Prop := Claim7.holds Tryd.pinned (.plain (OpenSpec.ofChange fnExactIdsOfSpec)) fnExactIdsOfCard

/-- THE SECOND FORM's CARD OF 'laws.FnExactNodeOk'. -/
def fnExactNodeOkUptoCard : Claim7 := { stood := { row := fnExactNodeOkUptoRow, standIns := [], harness := (true, "cb9be0726acba23454a2162f9a3cf172a7278e1a1c8de9bd6cd209157ca2805d"), looks := false }, kinds := [], alts := [], laidByText := true, laidKinds := [.data, .data, .data, .pinned, .pinned], laidTests := true, laidLooks := .later }
def FnExactNodeOkUptoCardSaid : Prop := Claim7.holds Tryd.pinned (.plain (OpenSpec.upto fnExactNodeOkSpec)) fnExactNodeOkUptoCard

/-- THE SECOND FORM's CARD OF 'laws.FnExactIdsOf'. -/
def fnExactIdsOfUptoCard : Claim7 := { stood := { row := fnExactIdsOfUptoRow, standIns := [], harness := (true, "cb9be0726acba23454a2162f9a3cf172a7278e1a1c8de9bd6cd209157ca2805d"), looks := false }, kinds := [], alts := [], laidByText := true, laidKinds := [.data, .pinned], laidTests := true, laidLooks := .later }
def FnExactIdsOfUptoCardSaid : Prop := Claim7.holds Tryd.pinned (.plain (OpenSpec.upto fnExactIdsOfSpec)) fnExactIdsOfUptoCard
end Rows
end Go.Proofs.YtlfjdaoibjjakaaDoor
