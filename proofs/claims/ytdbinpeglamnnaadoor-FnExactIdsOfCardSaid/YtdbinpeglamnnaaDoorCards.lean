/-
  DERIVED. GIVEN WITH THE SEED: THE CARDS: each row of YtdbinpeglamnnaaDoorRows.lean that lists a variable, with what it lists TIED to the program's text (the seventh form; the later family's looks); each row that meets fmt, with fmt's text TOLD by the authors' own Lean function (tested against real Go, not proved from fmt's source: count such statements apart). THE CARD IS WHAT COUNTS. Prove the row's statement (the work); the ties are given (YtdbinpeglamnnaaDoorTie.lean); close each card by the builder's one call (the guide's Derived/Test/ToyasCard.lean, 'card_holds'). Laid BY PROGRAM, IN A SANDBOX (cutbox-door.mjs). By AI agents, Wed Nov 11 2026. No macro, syntax, notation, axiom, sorry.
-/
import Derived.Test.YtdbinpeglamnnaaDoorRows
import GoSem.ClaimSeven
namespace Go.Proofs.YtdbinpeglamnnaaDoor
namespace Rows

/-- THE TIED CARD OF 'laws.FnExactIdsOf'. -/
def fnExactIdsOfCard : Claim7 := { stood := { row := fnExactIdsOfRow, standIns := [], harness := (true, "5ea29ee569bd96ddf2c80f5b5d91487d55e2d070be3e18c1e7499535d8361f32"), looks := false }, kinds := [], alts := [], laidByText := true, laidKinds := [.data, .pinned], laidTests := true, laidLooks := .later }
def FnExactIdsOfCardSaid : Prop := Claim7.holds Tryd.pinned (.plain (OpenSpec.ofChange fnExactIdsOfSpec)) fnExactIdsOfCard

/-- THE SECOND FORM's CARD OF 'laws.FnExactIdsOf'. -/
def fnExactIdsOfUptoCard : Claim7 := { stood := { row := fnExactIdsOfUptoRow, standIns := [], harness := (true, "5ea29ee569bd96ddf2c80f5b5d91487d55e2d070be3e18c1e7499535d8361f32"), looks := false }, kinds := [], alts := [], laidByText := true, laidKinds := [.data, .pinned], laidTests := true, laidLooks := .later }
def FnExactIdsOfUptoCardSaid : Prop := Claim7.holds Tryd.pinned (.plain (OpenSpec.upto fnExactIdsOfSpec)) fnExactIdsOfUptoCard
end Rows
end Go.Proofs.YtdbinpeglamnnaaDoor
