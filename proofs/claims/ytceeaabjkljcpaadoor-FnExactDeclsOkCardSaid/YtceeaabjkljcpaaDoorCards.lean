/-
  DERIVED. GIVEN WITH THE SEED: THE CARDS: each row of YtceeaabjkljcpaaDoorRows.lean that lists a variable, with what it lists TIED to the program's text (the seventh form; the later family's looks); each row that meets fmt, with fmt's text TOLD by the authors' own Lean function (tested against real Go, not proved from fmt's source: count such statements apart). THE CARD IS WHAT COUNTS. Prove the row's statement (the work); the ties are given (YtceeaabjkljcpaaDoorTie.lean); close each card by the builder's one call (the guide's Derived/Test/ToyasCard.lean, 'card_holds'). Laid BY PROGRAM, IN A SANDBOX (cutbox-door.mjs). By AI agents, Wed Nov 11 2026. No macro, syntax, notation, axiom, sorry.
-/
import Derived.Test.YtceeaabjkljcpaaDoorRows
import GoSem.ClaimSeven
namespace Go.Proofs.YtceeaabjkljcpaaDoor
namespace Rows

/-- THE TIED CARD OF 'laws.FnExactSignAt'. -/
def fnExactSignAtCard : Claim7 := { stood := { row := fnExactSignAtRow, standIns := [], harness := (true, "b122b678dd14508a44887d24e440c71c73670ab2db2062db762107eb0f852367"), looks := false }, kinds := [], alts := [], laidByText := true, laidKinds := [.data, .pinned], laidTests := true, laidLooks := .later }
def FnExactSignAtCardSaid : Prop := Claim7.holds Tryd.pinned (.plain (OpenSpec.ofChange fnExactSignAtSpec)) fnExactSignAtCard

/-- THE TIED CARD OF 'laws.FnExactTextOk'. -/
def fnExactTextOkCard : Claim7 := { stood := { row := fnExactTextOkRow, standIns := [], harness := (true, "b122b678dd14508a44887d24e440c71c73670ab2db2062db762107eb0f852367"), looks := false }, kinds := [], alts := [], laidByText := true, laidKinds := [.data, .pinned], laidTests := true, laidLooks := .later }
def FnExactTextOkCardSaid : Prop := Claim7.holds Tryd.pinned (.plain (OpenSpec.ofChange fnExactTextOkSpec)) fnExactTextOkCard

/-- THE TIED CARD OF 'laws.FnExactPlainOk'. -/
def fnExactPlainOkCard : Claim7 := { stood := { row := fnExactPlainOkRow, standIns := [], harness := (true, "b122b678dd14508a44887d24e440c71c73670ab2db2062db762107eb0f852367"), looks := false }, kinds := [], alts := [], laidByText := true, laidKinds := [.data, .pinned], laidTests := true, laidLooks := .later }
def FnExactPlainOkCardSaid : Prop := Claim7.holds Tryd.pinned (.plain (OpenSpec.ofChange fnExactPlainOkSpec)) fnExactPlainOkCard

/-- THE TIED CARD OF 'laws.FnExactNameAt'. -/
def fnExactNameAtCard : Claim7 := { stood := { row := fnExactNameAtRow, standIns := [], harness := (true, "b122b678dd14508a44887d24e440c71c73670ab2db2062db762107eb0f852367"), looks := false }, kinds := [], alts := [], laidByText := true, laidKinds := [.data, .pinned], laidTests := true, laidLooks := .later }
def FnExactNameAtCardSaid : Prop := Claim7.holds Tryd.pinned (.plain (OpenSpec.ofChange fnExactNameAtSpec)) fnExactNameAtCard

/-- THE TIED CARD OF 'laws.FnSigns'. -/
def fnSignsCard : Claim7 := { stood := { row := fnSignsRow, standIns := [], harness := (true, "b122b678dd14508a44887d24e440c71c73670ab2db2062db762107eb0f852367"), looks := false }, kinds := [], alts := [], laidByText := true, laidKinds := [.data, .pinned], laidTests := true, laidLooks := .later }
def FnSignsCardSaid : Prop := Claim7.holds Tryd.pinned (.plain (OpenSpec.ofChange fnSignsSpec)) fnSignsCard

/-- THE TIED CARD OF 'laws.FnExactDeclOk'. -/
def fnExactDeclOkCard : Claim7 := { stood := { row := fnExactDeclOkRow, standIns := [], harness := (true, "b122b678dd14508a44887d24e440c71c73670ab2db2062db762107eb0f852367"), looks := false }, kinds := [], alts := [], laidByText := true, laidKinds := [.data, .pinned], laidTests := true, laidLooks := .later }
def FnExactDeclOkCardSaid : Prop := Claim7.holds Tryd.pinned (.plain (OpenSpec.ofChange fnExactDeclOkSpec)) fnExactDeclOkCard

/-- THE TIED CARD OF 'laws.FnExactNorm'. -/
def fnExactNormCard : Claim7 := { stood := { row := fnExactNormRow, standIns := [], harness := (true, "b122b678dd14508a44887d24e440c71c73670ab2db2062db762107eb0f852367"), looks := false }, kinds := [], alts := [], laidByText := true, laidKinds := [.data, .pinned], laidTests := true, laidLooks := .later }
def FnExactNormCardSaid : Prop := Claim7.holds Tryd.pinned (.plain (OpenSpec.ofChange fnExactNormSpec)) fnExactNormCard

/-- THE TIED CARD OF 'laws.FnExactDeclsOk'. -/
def fnExactDeclsOkCard : Claim7 := { stood := { row := fnExactDeclsOkRow, standIns := [], harness := (true, "b122b678dd14508a44887d24e440c71c73670ab2db2062db762107eb0f852367"), looks := false }, kinds := [], alts := [], laidByText := true, laidKinds := [.data, .pinned], laidTests := true, laidLooks := .later }
def FnExactDeclsOkCardSaid : Prop := Claim7.holds Tryd.pinned (.plain (OpenSpec.ofChange fnExactDeclsOkSpec)) fnExactDeclsOkCard

/-- THE SECOND FORM's CARD OF 'laws.FnExactSignAt'. -/
def fnExactSignAtUptoCard : Claim7 := { stood := { row := fnExactSignAtUptoRow, standIns := [], harness := (true, "b122b678dd14508a44887d24e440c71c73670ab2db2062db762107eb0f852367"), looks := false }, kinds := [], alts := [], laidByText := true, laidKinds := [.data, .pinned], laidTests := true, laidLooks := .later }
def FnExactSignAtUptoCardSaid : Prop := Claim7.holds Tryd.pinned (.plain (OpenSpec.upto fnExactSignAtSpec)) fnExactSignAtUptoCard

/-- THE SECOND FORM's CARD OF 'laws.FnExactTextOk'. -/
def fnExactTextOkUptoCard : Claim7 := { stood := { row := fnExactTextOkUptoRow, standIns := [], harness := (true, "b122b678dd14508a44887d24e440c71c73670ab2db2062db762107eb0f852367"), looks := false }, kinds := [], alts := [], laidByText := true, laidKinds := [.data, .pinned], laidTests := true, laidLooks := .later }
def FnExactTextOkUptoCardSaid : Prop := Claim7.holds Tryd.pinned (.plain (OpenSpec.upto fnExactTextOkSpec)) fnExactTextOkUptoCard

/-- THE SECOND FORM's CARD OF 'laws.FnExactPlainOk'. -/
def fnExactPlainOkUptoCard : Claim7 := { stood := { row := fnExactPlainOkUptoRow, standIns := [], harness := (true, "b122b678dd14508a44887d24e440c71c73670ab2db2062db762107eb0f852367"), looks := false }, kinds := [], alts := [], laidByText := true, laidKinds := [.data, .pinned], laidTests := true, laidLooks := .later }
def FnExactPlainOkUptoCardSaid : Prop := Claim7.holds Tryd.pinned (.plain (OpenSpec.upto fnExactPlainOkSpec)) fnExactPlainOkUptoCard

/-- THE SECOND FORM's CARD OF 'laws.FnExactNameAt'. -/
def fnExactNameAtUptoCard : Claim7 := { stood := { row := fnExactNameAtUptoRow, standIns := [], harness := (true, "b122b678dd14508a44887d24e440c71c73670ab2db2062db762107eb0f852367"), looks := false }, kinds := [], alts := [], laidByText := true, laidKinds := [.data, .pinned], laidTests := true, laidLooks := .later }
def FnExactNameAtUptoCardSaid : Prop := Claim7.holds Tryd.pinned (.plain (OpenSpec.upto fnExactNameAtSpec)) fnExactNameAtUptoCard

/-- THE SECOND FORM's CARD OF 'laws.FnSigns'. -/
def fnSignsUptoCard : Claim7 := { stood := { row := fnSignsUptoRow, standIns := [], harness := (true, "b122b678dd14508a44887d24e440c71c73670ab2db2062db762107eb0f852367"), looks := false }, kinds := [], alts := [], laidByText := true, laidKinds := [.data, .pinned], laidTests := true, laidLooks := .later }
def FnSignsUptoCardSaid : Prop := Claim7.holds Tryd.pinned (.plain (OpenSpec.upto fnSignsSpec)) fnSignsUptoCard

/-- THE SECOND FORM's CARD OF 'laws.FnExactDeclOk'. -/
def fnExactDeclOkUptoCard : Claim7 := { stood := { row := fnExactDeclOkUptoRow, standIns := [], harness := (true, "b122b678dd14508a44887d24e440c71c73670ab2db2062db762107eb0f852367"), looks := false }, kinds := [], alts := [], laidByText := true, laidKinds := [.data, .pinned], laidTests := true, laidLooks := .later }
def FnExactDeclOkUptoCardSaid : Prop := Claim7.holds Tryd.pinned (.plain (OpenSpec.upto fnExactDeclOkSpec)) fnExactDeclOkUptoCard

/-- THE SECOND FORM's CARD OF 'laws.FnExactNorm'. -/
def fnExactNormUptoCard : Claim7 := { stood := { row := fnExactNormUptoRow, standIns := [], harness := (true, "b122b678dd14508a44887d24e440c71c73670ab2db2062db762107eb0f852367"), looks := false }, kinds := [], alts := [], laidByText := true, laidKinds := [.data, .pinned], laidTests := true, laidLooks := .later }
def FnExactNormUptoCardSaid : Prop := Claim7.holds Tryd.pinned (.plain (OpenSpec.upto fnExactNormSpec)) fnExactNormUptoCard

/-- THE SECOND FORM's CARD OF 'laws.FnExactDeclsOk'. -/
def fnExactDeclsOkUptoCard : Claim7 := { stood := { row := fnExactDeclsOkUptoRow, standIns := [], harness := (true, "b122b678dd14508a44887d24e440c71c73670ab2db2062db762107eb0f852367"), looks := false }, kinds := [], alts := [], laidByText := true, laidKinds := [.data, .pinned], laidTests := true, laidLooks := .later }
def FnExactDeclsOkUptoCardSaid : Prop := Claim7.holds Tryd.pinned (.plain (OpenSpec.upto fnExactDeclsOkSpec)) fnExactDeclsOkUptoCard
end Rows
end Go.Proofs.YtceeaabjkljcpaaDoor
