/-
  DERIVED. GIVEN WITH THE SEED: THE CARDS: each row of YtgchgcfjbjopkaaDoorRows.lean that lists a variable, with what it lists TIED to the program's text (the seventh form; the later family's looks); each row that meets fmt, with fmt's text TOLD by the authors' own Lean function (tested against real Go, not proved from fmt's source: count such statements apart). THE CARD IS WHAT COUNTS. Prove the row's statement (the work); the ties are given (YtgchgcfjbjopkaaDoorTie.lean); close each card by the builder's one call (the guide's Derived/Test/ToyasCard.lean, 'card_holds'). Laid BY PROGRAM, IN A SANDBOX (cutbox-door.mjs). By AI agents, Wed Nov 11 2026. No macro, syntax, notation, axiom, sorry.
-/
import Derived.Test.YtgchgcfjbjopkaaDoorRows
import GoSem.ClaimSeven
namespace Go.Proofs.YtgchgcfjbjopkaaDoor
namespace Rows

/-- THE TIED CARD OF 'laws.FnExactSplitName'. -/
def fnExactSplitNameCard : Claim7 := { stood := { row := fnExactSplitNameRow, standIns := [], harness := (true, "397af7906a3fe3c109a39c18a7911cc0d81664937f9f4d637b6da645980c0557"), looks := false }, kinds := [], alts := [], laidByText := true, laidKinds := [.data, .pinned], laidTests := true, laidLooks := .later }
def FnExactSplitNameCardSaid : Prop := Claim7.holds Tryd.pinned (.plain (OpenSpec.ofChange fnExactSplitNameSpec)) fnExactSplitNameCard

/-- THE TIED CARD OF 'laws.FnExactEscText'. -/
def fnExactEscTextCard : Claim7 := { stood := { row := fnExactEscTextRow, standIns := [], harness := (true, "397af7906a3fe3c109a39c18a7911cc0d81664937f9f4d637b6da645980c0557"), looks := false }, kinds := [], alts := [], laidByText := true, laidKinds := [.data, .pinned], laidTests := true, laidLooks := .later }
def FnExactEscTextCardSaid : Prop := Claim7.holds Tryd.pinned (.plain (OpenSpec.ofChange fnExactEscTextSpec)) fnExactEscTextCard

/-- THE TIED CARD OF 'laws.FnExactEscAttr'. -/
def fnExactEscAttrCard : Claim7 := { stood := { row := fnExactEscAttrRow, standIns := [], harness := (true, "397af7906a3fe3c109a39c18a7911cc0d81664937f9f4d637b6da645980c0557"), looks := false }, kinds := [], alts := [], laidByText := true, laidKinds := [.data, .pinned], laidTests := true, laidLooks := .later }
def FnExactEscAttrCardSaid : Prop := Claim7.holds Tryd.pinned (.plain (OpenSpec.ofChange fnExactEscAttrSpec)) fnExactEscAttrCard

/-- THE TIED CARD OF 'laws.FnExactEntsOk'. -/
def fnExactEntsOkCard : Claim7 := { stood := { row := fnExactEntsOkRow, standIns := [], harness := (true, "397af7906a3fe3c109a39c18a7911cc0d81664937f9f4d637b6da645980c0557"), looks := false }, kinds := [], alts := [], laidByText := true, laidKinds := [.data, .pinned], laidTests := true, laidLooks := .later }
def FnExactEntsOkCardSaid : Prop := Claim7.holds Tryd.pinned (.plain (OpenSpec.ofChange fnExactEntsOkSpec)) fnExactEntsOkCard

/-- THE TIED CARD OF 'laws.FnNorms'. -/
def fnNormsCard : Claim7 := { stood := { row := fnNormsRow, standIns := [], harness := (true, "397af7906a3fe3c109a39c18a7911cc0d81664937f9f4d637b6da645980c0557"), looks := false }, kinds := [], alts := [], laidByText := true, laidKinds := [.data, .pinned], laidTests := true, laidLooks := .later }
def FnNormsCardSaid : Prop := Claim7.holds Tryd.pinned (.plain (OpenSpec.ofChange fnNormsSpec)) fnNormsCard

/-- THE TIED CARD OF 'laws.FnExactJoinName'. -/
def fnExactJoinNameCard : Claim7 := { stood := { row := fnExactJoinNameRow, standIns := [], harness := (true, "397af7906a3fe3c109a39c18a7911cc0d81664937f9f4d637b6da645980c0557"), looks := false }, kinds := [], alts := [], laidByText := true, laidKinds := [.data, .pinned], laidTests := true, laidLooks := .later }
def FnExactJoinNameCardSaid : Prop := Claim7.holds Tryd.pinned (.plain (OpenSpec.ofChange fnExactJoinNameSpec)) fnExactJoinNameCard

/-- THE TIED CARD OF 'laws.FnNames'. -/
def fnNamesCard : Claim7 := { stood := { row := fnNamesRow, standIns := [], harness := (true, "397af7906a3fe3c109a39c18a7911cc0d81664937f9f4d637b6da645980c0557"), looks := false }, kinds := [], alts := [], laidByText := true, laidKinds := [.data, .pinned], laidTests := true, laidLooks := .later }
def FnNamesCardSaid : Prop := Claim7.holds Tryd.pinned (.plain (OpenSpec.ofChange fnNamesSpec)) fnNamesCard

/-- THE TIED CARD OF 'laws.FnScopes'. -/
def fnScopesCard : Claim7 := { stood := { row := fnScopesRow, standIns := [], harness := (true, "397af7906a3fe3c109a39c18a7911cc0d81664937f9f4d637b6da645980c0557"), looks := false }, kinds := [], alts := [], laidByText := true, laidKinds := [.data, .pinned], laidTests := true, laidLooks := .later }
def FnScopesCardSaid : Prop := Claim7.holds Tryd.pinned (.plain (OpenSpec.ofChange fnScopesSpec)) fnScopesCard

/-- THE SECOND FORM's CARD OF 'laws.FnExactSplitName'. -/
def fnExactSplitNameUptoCard : Claim7 := { stood := { row := fnExactSplitNameUptoRow, standIns := [], harness := (true, "397af7906a3fe3c109a39c18a7911cc0d81664937f9f4d637b6da645980c0557"), looks := false }, kinds := [], alts := [], laidByText := true, laidKinds := [.data, .pinned], laidTests := true, laidLooks := .later }
def FnExactSplitNameUptoCardSaid : Prop := Claim7.holds Tryd.pinned (.plain (OpenSpec.upto fnExactSplitNameSpec)) fnExactSplitNameUptoCard

/-- THE SECOND FORM's CARD OF 'laws.FnExactEscText'. -/
def fnExactEscTextUptoCard : Claim7 := { stood := { row := fnExactEscTextUptoRow, standIns := [], harness := (true, "397af7906a3fe3c109a39c18a7911cc0d81664937f9f4d637b6da645980c0557"), looks := false }, kinds := [], alts := [], laidByText := true, laidKinds := [.data, .pinned], laidTests := true, laidLooks := .later }
def FnExactEscTextUptoCardSaid : Prop := Claim7.holds Tryd.pinned (.plain (OpenSpec.upto fnExactEscTextSpec)) fnExactEscTextUptoCard

/-- THE SECOND FORM's CARD OF 'laws.FnExactEscAttr'. -/
def fnExactEscAttrUptoCard : Claim7 := { stood := { row := fnExactEscAttrUptoRow, standIns := [], harness := (true, "397af7906a3fe3c109a39c18a7911cc0d81664937f9f4d637b6da645980c0557"), looks := false }, kinds := [], alts := [], laidByText := true, laidKinds := [.data, .pinned], laidTests := true, laidLooks := .later }
def FnExactEscAttrUptoCardSaid : Prop := Claim7.holds Tryd.pinned (.plain (OpenSpec.upto fnExactEscAttrSpec)) fnExactEscAttrUptoCard

/-- THE SECOND FORM's CARD OF 'laws.FnExactEntsOk'. -/
def fnExactEntsOkUptoCard : Claim7 := { stood := { row := fnExactEntsOkUptoRow, standIns := [], harness := (true, "397af7906a3fe3c109a39c18a7911cc0d81664937f9f4d637b6da645980c0557"), looks := false }, kinds := [], alts := [], laidByText := true, laidKinds := [.data, .pinned], laidTests := true, laidLooks := .later }
def FnExactEntsOkUptoCardSaid : Prop := Claim7.holds Tryd.pinned (.plain (OpenSpec.upto fnExactEntsOkSpec)) fnExactEntsOkUptoCard

/-- THE SECOND FORM's CARD OF 'laws.FnNorms'. -/
def fnNormsUptoCard : Claim7 := { stood := { row := fnNormsUptoRow, standIns := [], harness := (true, "397af7906a3fe3c109a39c18a7911cc0d81664937f9f4d637b6da645980c0557"), looks := false }, kinds := [], alts := [], laidByText := true, laidKinds := [.data, .pinned], laidTests := true, laidLooks := .later }
def FnNormsUptoCardSaid : Prop := Claim7.holds Tryd.pinned (.plain (OpenSpec.upto fnNormsSpec)) fnNormsUptoCard

/-- THE SECOND FORM's CARD OF 'laws.FnExactJoinName'. -/
def fnExactJoinNameUptoCard : Claim7 := { stood := { row := fnExactJoinNameUptoRow, standIns := [], harness := (true, "397af7906a3fe3c109a39c18a7911cc0d81664937f9f4d637b6da645980c0557"), looks := false }, kinds := [], alts := [], laidByText := true, laidKinds := [.data, .pinned], laidTests := true, laidLooks := .later }
def FnExactJoinNameUptoCardSaid : Prop := Claim7.holds Tryd.pinned (.plain (OpenSpec.upto fnExactJoinNameSpec)) fnExactJoinNameUptoCard

/-- THE SECOND FORM's CARD OF 'laws.FnNames'. -/
def fnNamesUptoCard : Claim7 := { stood := { row := fnNamesUptoRow, standIns := [], harness := (true, "397af7906a3fe3c109a39c18a7911cc0d81664937f9f4d637b6da645980c0557"), looks := false }, kinds := [], alts := [], laidByText := true, laidKinds := [.data, .pinned], laidTests := true, laidLooks := .later }
def FnNamesUptoCardSaid : Prop := Claim7.holds Tryd.pinned (.plain (OpenSpec.upto fnNamesSpec)) fnNamesUptoCard

/-- THE SECOND FORM's CARD OF 'laws.FnScopes'. -/
def fnScopesUptoCard : Claim7 := { stood := { row := fnScopesUptoRow, standIns := [], harness := (true, "397af7906a3fe3c109a39c18a7911cc0d81664937f9f4d637b6da645980c0557"), looks := false }, kinds := [], alts := [], laidByText := true, laidKinds := [.data, .pinned], laidTests := true, laidLooks := .later }
def FnScopesUptoCardSaid : Prop := Claim7.holds Tryd.pinned (.plain (OpenSpec.upto fnScopesSpec)) fnScopesUptoCard
end Rows
end Go.Proofs.YtgchgcfjbjopkaaDoor
