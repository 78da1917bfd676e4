/-
  NARROWER THAN 'FOR EVERY INPUT', by the rows' own cells (each row's printed sentence says how): FnExactSplitName: laid · FnExactEscText: laid · FnExactEscAttr: laid · FnExactEntsOk: laid · FnNorms: laid · FnExactJoinName: laid · FnNames: laid · FnScopes: laid.
  DERIVED. THE GIVEN ROWS OF THIS SEAT. 8 by the template 'for every input the law returns true; each argument reads behind the call as it read before'; 0 by the template 'total and deterministic' (their statements: YtgchgcfjbjopkaaDoorTotals.lean).
  GIVEN WITH THE SEED: the statements are not yours to turn. If you find one false, say at which input.
  Laid BY PROGRAM, IN A SANDBOX (cutbox-rows.mjs): the forced cells as the released guide's own fill.sh prints them over the translation 3b855e08a6dba116… (all of the seat's roots in one cut). By AI agents, Wed Nov 11 2026. No macro, syntax, notation, axiom, sorry.
-/
import Derived.Test.YtgchgcfjbjopkaaDoorChecked
import GoSem.PinnedTables
import GoSem.Claim
import GoSem.ClaimJoined
import GoSem.ClaimMapViews
import Derived.JoinedTies
import Derived.KernelRfl
namespace Go.Proofs.YtgchgcfjbjopkaaDoor
/- THE CELL 'sum', in the pinned program and in every row, IS THE sha256 OF THE DUMP (.gsa) THAT YtgchgcfjbjopkaaDoorProg.lean LOADS. Nothing in Lean hashes anything: it is a label: what it is worth is what the hold of that sum in a sandbox is worth. -/
noncomputable def Tryd.pinned : Pinned := { name := "ytgchgcfjbjopkaadoor", sum := "3b855e08a6dba1165c5c9c6ac52570f4db2bfe4e5c54d85c716193f88bfdcd95", checked := Tryd.checked }
namespace Rows
def none {H : Type} : Left H := { results := [], args := [] }

/- WHAT THE LISTED PACKAGE-LEVEL VARIABLES READ AS WHEN THE CALL BEGINS. Each datum BY PROGRAM (the guide's laid-datum.mjs) off the statement by which the dump's own 'gosem.cut.vars' lays the variable. In a bare row this is a premise. The card (YtgchgcfjbjopkaaDoorCards.lean) ties it to the program's text. -/
def laid_unicode_utf8_acceptRanges {H : Type} : DataW H := .agg [.agg [.lit (.int .u8 128), .lit (.int .u8 191)], .agg [.lit (.int .u8 160), .lit (.int .u8 191)], .agg [.lit (.int .u8 128), .lit (.int .u8 159)], .agg [.lit (.int .u8 144), .lit (.int .u8 191)], .agg [.lit (.int .u8 128), .lit (.int .u8 143)], .agg [.lit (.int .u8 0), .lit (.int .u8 0)], .agg [.lit (.int .u8 0), .lit (.int .u8 0)], .agg [.lit (.int .u8 0), .lit (.int .u8 0)], .agg [.lit (.int .u8 0), .lit (.int .u8 0)], .agg [.lit (.int .u8 0), .lit (.int .u8 0)], .agg [.lit (.int .u8 0), .lit (.int .u8 0)], .agg [.lit (.int .u8 0), .lit (.int .u8 0)], .agg [.lit (.int .u8 0), .lit (.int .u8 0)], .agg [.lit (.int .u8 0), .lit (.int .u8 0)], .agg [.lit (.int .u8 0), .lit (.int .u8 0)], .agg [.lit (.int .u8 0), .lit (.int .u8 0)]]
/-- One of Go's own tables, pinned by name: the form's constant. -/
def laid_unicode_utf8_first : DataW Unit := Go.Pinned.utf8First

/-- 'laws.FnExactSplitName': WHATEVER THE INPUT: true; the input reads as it did. -/
def fnExactSplitNameSpec : ChangeSpec := { name := "fnExactSplitName", fn := fun _ => fun
  | [d] => { results := [.lit (.bool true)], args := [d] }
  | _ => none }
def fnExactSplitNameRow : OpenClaim := { program := "ytgchgcfjbjopkaadoor", sum := "3b855e08a6dba1165c5c9c6ac52570f4db2bfe4e5c54d85c716193f88bfdcd95", func := "loop.example/g00484/laws.FnExactSplitName", spec := "fnExactSplitName", inPlace := ["internal/bytealg.IndexByteString", "internal/bytealg.IndexString"], unfollowed := true, recurses := true, named := ["unicode/utf8.first", "unicode/utf8.acceptRanges", "internal/bytealg.MaxLen"], apart := false, laid := [("unicode/utf8.acceptRanges", laid_unicode_utf8_acceptRanges), ("unicode/utf8.first", laid_unicode_utf8_first)] }
def FnExactSplitNameSaid : Prop := fnExactSplitNameRow.holds Tryd.pinned (OpenSpec.ofChange fnExactSplitNameSpec)

/-- ITS FALSE NEIGHBOUR: 'it returns false'. Refute it at one input. -/
def fnExactSplitNameWrong : ChangeSpec := { name := "fnExactSplitName", fn := fun _ => fun
  | [d] => { results := [.lit (.bool false)], args := [d] }
  | _ => none }
def FnExactSplitNameWrongFalsely : Prop := fnExactSplitNameRow.holds Tryd.pinned (OpenSpec.ofChange fnExactSplitNameWrong)

/-- 'laws.FnExactEscText': WHATEVER THE INPUT: true; the input reads as it did. -/
def fnExactEscTextSpec : ChangeSpec := { name := "fnExactEscText", fn := fun _ => fun
  | [d] => { results := [.lit (.bool true)], args := [d] }
  | _ => none }
def fnExactEscTextRow : OpenClaim := { program := "ytgchgcfjbjopkaadoor", sum := "3b855e08a6dba1165c5c9c6ac52570f4db2bfe4e5c54d85c716193f88bfdcd95", func := "loop.example/g00484/laws.FnExactEscText", spec := "fnExactEscText", inPlace := ["internal/bytealg.CountString", "internal/bytealg.IndexByteString", "internal/bytealg.IndexString", "internal/abi.NoEscape", "internal/bytealg.MakeNoZero"], named := ["internal/bytealg.MaxLen", "unicode/utf8.first", "unicode/utf8.acceptRanges"], apart := false, laid := [("unicode/utf8.acceptRanges", laid_unicode_utf8_acceptRanges), ("unicode/utf8.first", laid_unicode_utf8_first)] }
def FnExactEscTextSaid : Prop := fnExactEscTextRow.holds Tryd.pinned (OpenSpec.ofChange fnExactEscTextSpec)

/-- ITS FALSE NEIGHBOUR: 'it returns false'. Refute it at one input. -/
def fnExactEscTextWrong : ChangeSpec := { name := "fnExactEscText", fn := fun _ => fun
  | [d] => { results := [.lit (.bool false)], args := [d] }
  | _ => none }
def FnExactEscTextWrongFalsely : Prop := fnExactEscTextRow.holds Tryd.pinned (OpenSpec.ofChange fnExactEscTextWrong)

/-- 'laws.FnExactEscAttr': WHATEVER THE INPUT: true; the input reads as it did. -/
def fnExactEscAttrSpec : ChangeSpec := { name := "fnExactEscAttr", fn := fun _ => fun
  | [d] => { results := [.lit (.bool true)], args := [d] }
  | _ => none }
def fnExactEscAttrRow : OpenClaim := { program := "ytgchgcfjbjopkaadoor", sum := "3b855e08a6dba1165c5c9c6ac52570f4db2bfe4e5c54d85c716193f88bfdcd95", func := "loop.example/g00484/laws.FnExactEscAttr", spec := "fnExactEscAttr", inPlace := ["internal/bytealg.CountString", "internal/bytealg.IndexByteString", "internal/bytealg.IndexString", "internal/abi.NoEscape", "internal/bytealg.MakeNoZero"], named := ["internal/bytealg.MaxLen", "unicode/utf8.first", "unicode/utf8.acceptRanges"], apart := false, laid := [("unicode/utf8.acceptRanges", laid_unicode_utf8_acceptRanges), ("unicode/utf8.first", laid_unicode_utf8_first)] }
def FnExactEscAttrSaid : Prop := fnExactEscAttrRow.holds Tryd.pinned (OpenSpec.ofChange fnExactEscAttrSpec)

/-- ITS FALSE NEIGHBOUR: 'it returns false'. Refute it at one input. -/
def fnExactEscAttrWrong : ChangeSpec := { name := "fnExactEscAttr", fn := fun _ => fun
  | [d] => { results := [.lit (.bool false)], args := [d] }
  | _ => none }
def FnExactEscAttrWrongFalsely : Prop := fnExactEscAttrRow.holds Tryd.pinned (OpenSpec.ofChange fnExactEscAttrWrong)

/-- 'laws.FnExactEntsOk': WHATEVER THE INPUT: true; the input reads as it did. -/
def fnExactEntsOkSpec : ChangeSpec := { name := "fnExactEntsOk", fn := fun _ => fun
  | [d] => { results := [.lit (.bool true)], args := [d] }
  | _ => none }
def fnExactEntsOkRow : OpenClaim := { program := "ytgchgcfjbjopkaadoor", sum := "3b855e08a6dba1165c5c9c6ac52570f4db2bfe4e5c54d85c716193f88bfdcd95", func := "loop.example/g00484/laws.FnExactEntsOk", spec := "fnExactEntsOk", unfollowed := true, recurses := true, named := ["unicode/utf8.first", "unicode/utf8.acceptRanges"], apart := false, laid := [("unicode/utf8.acceptRanges", laid_unicode_utf8_acceptRanges), ("unicode/utf8.first", laid_unicode_utf8_first)] }
def FnExactEntsOkSaid : Prop := fnExactEntsOkRow.holds Tryd.pinned (OpenSpec.ofChange fnExactEntsOkSpec)

/-- ITS FALSE NEIGHBOUR: 'it returns false'. Refute it at one input. -/
def fnExactEntsOkWrong : ChangeSpec := { name := "fnExactEntsOk", fn := fun _ => fun
  | [d] => { results := [.lit (.bool false)], args := [d] }
  | _ => none }
def FnExactEntsOkWrongFalsely : Prop := fnExactEntsOkRow.holds Tryd.pinned (OpenSpec.ofChange fnExactEntsOkWrong)

/-- 'laws.FnNorms': WHATEVER THE INPUT: true; the input reads as it did. -/
def fnNormsSpec : ChangeSpec := { name := "fnNorms", fn := fun _ => fun
  | [d] => { results := [.lit (.bool true)], args := [d] }
  | _ => none }
def fnNormsRow : OpenClaim := { program := "ytgchgcfjbjopkaadoor", sum := "3b855e08a6dba1165c5c9c6ac52570f4db2bfe4e5c54d85c716193f88bfdcd95", func := "loop.example/g00484/laws.FnNorms", spec := "fnNorms", inPlace := ["internal/bytealg.CountString", "internal/bytealg.IndexByteString", "internal/bytealg.IndexString", "internal/abi.NoEscape", "internal/bytealg.MakeNoZero"], named := ["internal/bytealg.MaxLen", "unicode/utf8.first", "unicode/utf8.acceptRanges"], apart := false, laid := [("unicode/utf8.acceptRanges", laid_unicode_utf8_acceptRanges), ("unicode/utf8.first", laid_unicode_utf8_first)] }
def FnNormsSaid : Prop := fnNormsRow.holds Tryd.pinned (OpenSpec.ofChange fnNormsSpec)

/-- ITS FALSE NEIGHBOUR: 'it returns false'. Refute it at one input. -/
def fnNormsWrong : ChangeSpec := { name := "fnNorms", fn := fun _ => fun
  | [d] => { results := [.lit (.bool false)], args := [d] }
  | _ => none }
def FnNormsWrongFalsely : Prop := fnNormsRow.holds Tryd.pinned (OpenSpec.ofChange fnNormsWrong)

/-- 'laws.FnExactJoinName': WHATEVER THE INPUT: true; the input reads as it did. -/
def fnExactJoinNameSpec : ChangeSpec := { name := "fnExactJoinName", fn := fun _ => fun
  | [d1, d2] => { results := [.lit (.bool true)], args := [d1, d2] }
  | _ => none }
def fnExactJoinNameRow : OpenClaim := { program := "ytgchgcfjbjopkaadoor", sum := "3b855e08a6dba1165c5c9c6ac52570f4db2bfe4e5c54d85c716193f88bfdcd95", func := "loop.example/g00484/laws.FnExactJoinName", spec := "fnExactJoinName", inPlace := ["internal/bytealg.IndexByteString", "internal/bytealg.IndexString"], unfollowed := true, recurses := true, named := ["unicode/utf8.first", "unicode/utf8.acceptRanges", "internal/bytealg.MaxLen"], apart := false, laid := [("unicode/utf8.acceptRanges", laid_unicode_utf8_acceptRanges), ("unicode/utf8.first", laid_unicode_utf8_first)] }
def FnExactJoinNameSaid : Prop := fnExactJoinNameRow.holds Tryd.pinned (OpenSpec.ofChange fnExactJoinNameSpec)

/-- ITS FALSE NEIGHBOUR: 'it returns false'. Refute it at one input. -/
def fnExactJoinNameWrong : ChangeSpec := { name := "fnExactJoinName", fn := fun _ => fun
  | [d1, d2] => { results := [.lit (.bool false)], args := [d1, d2] }
  | _ => none }
def FnExactJoinNameWrongFalsely : Prop := fnExactJoinNameRow.holds Tryd.pinned (OpenSpec.ofChange fnExactJoinNameWrong)

/-- 'laws.FnNames': WHATEVER THE INPUT: true; the input reads as it did. -/
def fnNamesSpec : ChangeSpec := { name := "fnNames", fn := fun _ => fun
  | [d] => { results := [.lit (.bool true)], args := [d] }
  | _ => none }
def fnNamesRow : OpenClaim := { program := "ytgchgcfjbjopkaadoor", sum := "3b855e08a6dba1165c5c9c6ac52570f4db2bfe4e5c54d85c716193f88bfdcd95", func := "loop.example/g00484/laws.FnNames", spec := "fnNames", inPlace := ["internal/bytealg.IndexByteString", "internal/bytealg.IndexString"], unfollowed := true, recurses := true, named := ["unicode/utf8.first", "unicode/utf8.acceptRanges", "internal/bytealg.MaxLen"], apart := false, laid := [("unicode/utf8.acceptRanges", laid_unicode_utf8_acceptRanges), ("unicode/utf8.first", laid_unicode_utf8_first)] }
def FnNamesSaid : Prop := fnNamesRow.holds Tryd.pinned (OpenSpec.ofChange fnNamesSpec)

/-- ITS FALSE NEIGHBOUR: 'it returns false'. Refute it at one input. -/
def fnNamesWrong : ChangeSpec := { name := "fnNames", fn := fun _ => fun
  | [d] => { results := [.lit (.bool false)], args := [d] }
  | _ => none }
def FnNamesWrongFalsely : Prop := fnNamesRow.holds Tryd.pinned (OpenSpec.ofChange fnNamesWrong)

/-- 'laws.FnScopes': WHATEVER THE INPUT: true; the input reads as it did. -/
def fnScopesSpec : ChangeSpec := { name := "fnScopes", fn := fun _ => fun
  | [d] => { results := [.lit (.bool true)], args := [d] }
  | _ => none }
def fnScopesRow : OpenClaim := { program := "ytgchgcfjbjopkaadoor", sum := "3b855e08a6dba1165c5c9c6ac52570f4db2bfe4e5c54d85c716193f88bfdcd95", func := "loop.example/g00484/laws.FnScopes", spec := "fnScopes", unfollowed := true, recurses := true, named := ["unicode/utf8.first", "unicode/utf8.acceptRanges"], apart := false, laid := [("unicode/utf8.acceptRanges", laid_unicode_utf8_acceptRanges), ("unicode/utf8.first", laid_unicode_utf8_first)] }
def FnScopesSaid : Prop := fnScopesRow.holds Tryd.pinned (OpenSpec.ofChange fnScopesSpec)

/-- ITS FALSE NEIGHBOUR: 'it returns false'. Refute it at one input. -/
def fnScopesWrong : ChangeSpec := { name := "fnScopes", fn := fun _ => fun
  | [d] => { results := [.lit (.bool false)], args := [d] }
  | _ => none }
def FnScopesWrongFalsely : Prop := fnScopesRow.holds Tryd.pinned (OpenSpec.ofChange fnScopesWrong)

/- THE SECOND FORM. 'bulk': how many values and letters a reading holds, each counted each time it is reached (what is shared counts as often as it is met; a slice's spare places count too). A statement '..UptoSaid' is the law's where the arguments, and the package variables that the reading takes, are together of bulk at most 1048576: NARROWER than '..Said'. Prove '..Said' where nothing that the law and all that it calls make is longer than what came in: it says more and counts as full. Else prove '..UptoSaid'. A law counts once. -/
mutual
def uptoBulk {H : Type} : DataW H → Nat
  | .lit (.string bytes) => bytes.length + 1
  | .lit _ => 1
  | .nil => 1
  | .ptr d => uptoBulk d + 1
  | .slice elems spare => uptoBulkAll elems + uptoBulkAll spare + 1
  | .agg parts => uptoBulkAll parts + 1
  | .iface _ d => uptoBulk d + 1
  | .map entries => uptoBulkEntries entries + 1
  | .held _ => 1
def uptoBulkAll {H : Type} : List (DataW H) → Nat
  | [] => 0
  | d :: r => uptoBulk d + uptoBulkAll r
def uptoBulkEntries {H : Type} : List (Lit × DataW H) → Nat
  | [] => 0
  | x :: r => uptoBulkEntry x + uptoBulkEntries r
def uptoBulkEntry {H : Type} : Lit × DataW H → Nat
  | (.string bytes, d) => bytes.length + uptoBulk d + 1
  | (_, d) => uptoBulk d + 1
 end
def uptoSmall : (H : Type) → List (DataW H) → Bool := fun _ ds => decide (uptoBulkAll ds ≤ 1048576)
def OpenSpec.upto (s : _root_.Go.ChangeSpec) : _root_.Go.OpenSpec := { _root_.Go.OpenSpec.ofChange s with cond := some uptoSmall }

/-- 'laws.FnExactSplitName', WHERE WHAT IT READS IS OF BULK AT MOST 1048576: true; the input reads as it did. -/
def fnExactSplitNameUptoRow : OpenClaim := { program := "ytgchgcfjbjopkaadoor", sum := "3b855e08a6dba1165c5c9c6ac52570f4db2bfe4e5c54d85c716193f88bfdcd95", func := "loop.example/g00484/laws.FnExactSplitName", spec := "fnExactSplitName", inPlace := ["internal/bytealg.IndexByteString", "internal/bytealg.IndexString"], unfollowed := true, recurses := true, named := ["unicode/utf8.first", "unicode/utf8.acceptRanges", "internal/bytealg.MaxLen"], apart := false, laid := [("unicode/utf8.acceptRanges", laid_unicode_utf8_acceptRanges), ("unicode/utf8.first", laid_unicode_utf8_first)], narrowed := true }
def FnExactSplitNameUptoSaid : Prop := fnExactSplitNameUptoRow.holds Tryd.pinned (OpenSpec.upto fnExactSplitNameSpec)

/-- 'laws.FnExactEscText', WHERE WHAT IT READS IS OF BULK AT MOST 1048576: true; the input reads as it did. -/
def fnExactEscTextUptoRow : OpenClaim := { program := "ytgchgcfjbjopkaadoor", sum := "3b855e08a6dba1165c5c9c6ac52570f4db2bfe4e5c54d85c716193f88bfdcd95", func := "loop.example/g00484/laws.FnExactEscText", spec := "fnExactEscText", inPlace := ["internal/bytealg.CountString", "internal/bytealg.IndexByteString", "internal/bytealg.IndexString", "internal/abi.NoEscape", "internal/bytealg.MakeNoZero"], named := ["internal/bytealg.MaxLen", "unicode/utf8.first", "unicode/utf8.acceptRanges"], apart := false, laid := [("unicode/utf8.acceptRanges", laid_unicode_utf8_acceptRanges), ("unicode/utf8.first", laid_unicode_utf8_first)], narrowed := true }
def FnExactEscTextUptoSaid : Prop := fnExactEscTextUptoRow.holds Tryd.pinned (OpenSpec.upto fnExactEscTextSpec)

/-- 'laws.FnExactEscAttr', WHERE WHAT IT READS IS OF BULK AT MOST 1048576: true; the input reads as it did. -/
def fnExactEscAttrUptoRow : OpenClaim := { program := "ytgchgcfjbjopkaadoor", sum := "3b855e08a6dba1165c5c9c6ac52570f4db2bfe4e5c54d85c716193f88bfdcd95", func := "loop.example/g00484/laws.FnExactEscAttr", spec := "fnExactEscAttr", inPlace := ["internal/bytealg.CountString", "internal/bytealg.IndexByteString", "internal/bytealg.IndexString", "internal/abi.NoEscape", "internal/bytealg.MakeNoZero"], named := ["internal/bytealg.MaxLen", "unicode/utf8.first", "unicode/utf8.acceptRanges"], apart := false, laid := [("unicode/utf8.acceptRanges", laid_unicode_utf8_acceptRanges), ("unicode/utf8.first", laid_unicode_utf8_first)], narrowed := true }
def FnExactEscAttrUptoSaid : Prop := fnExactEscAttrUptoRow.holds Tryd.pinned (OpenSpec.upto fnExactEscAttrSpec)

/-- 'laws.FnExactEntsOk', WHERE WHAT IT READS IS OF BULK AT MOST 1048576: true; the input reads as it did. -/
def fnExactEntsOkUptoRow : OpenClaim := { program := "ytgchgcfjbjopkaadoor", sum := "3b855e08a6dba1165c5c9c6ac52570f4db2bfe4e5c54d85c716193f88bfdcd95", func := "loop.example/g00484/laws.FnExactEntsOk", spec := "fnExactEntsOk", unfollowed := true, recurses := true, named := ["unicode/utf8.first", "unicode/utf8.acceptRanges"], apart := false, laid := [("unicode/utf8.acceptRanges", laid_unicode_utf8_acceptRanges), ("unicode/utf8.first", laid_unicode_utf8_first)], narrowed := true }
def FnExactEntsOkUptoSaid : Prop := fnExactEntsOkUptoRow.holds Tryd.pinned (OpenSpec.upto fnExactEntsOkSpec)

/-- 'laws.FnNorms', WHERE WHAT IT READS IS OF BULK AT MOST 1048576: true; the input reads as it did. -/
def fnNormsUptoRow : OpenClaim := { program := "ytgchgcfjbjopkaadoor", sum := "3b855e08a6dba1165c5c9c6ac52570f4db2bfe4e5c54d85c716193f88bfdcd95", func := "loop.example/g00484/laws.FnNorms", spec := "fnNorms", inPlace := ["internal/bytealg.CountString", "internal/bytealg.IndexByteString", "internal/bytealg.IndexString", "internal/abi.NoEscape", "internal/bytealg.MakeNoZero"], named := ["internal/bytealg.MaxLen", "unicode/utf8.first", "unicode/utf8.acceptRanges"], apart := false, laid := [("unicode/utf8.acceptRanges", laid_unicode_utf8_acceptRanges), ("unicode/utf8.first", laid_unicode_utf8_first)], narrowed := true }
def FnNormsUptoSaid : Prop := fnNormsUptoRow.holds Tryd.pinned (OpenSpec.upto fnNormsSpec)

/-- 'laws.FnExactJoinName', WHERE WHAT IT READS IS OF BULK AT MOST 1048576: true; the input reads as it did. -/
def fnExactJoinNameUptoRow : OpenClaim := { program := "ytgchgcfjbjopkaadoor", sum := "3b855e08a6dba1165c5c9c6ac52570f4db2bfe4e5c54d85c716193f88bfdcd95", func := "loop.example/g00484/laws.FnExactJoinName", spec := "fnExactJoinName", inPlace := ["internal/bytealg.IndexByteString", "internal/bytealg.IndexString"], unfollowed := true, recurses := true, named := ["unicode/utf8.first", "unicode/utf8.acceptRanges", "internal/bytealg.MaxLen"], apart := false, laid := [("unicode/utf8.acceptRanges", laid_unicode_utf8_acceptRanges), ("unicode/utf8.first", laid_unicode_utf8_first)], narrowed := true }
def FnExactJoinNameUptoSaid : Prop := fnExactJoinNameUptoRow.holds Tryd.pinned (OpenSpec.upto fnExactJoinNameSpec)

/-- 'laws.FnNames', WHERE WHAT IT READS IS OF BULK AT MOST 1048576: true; the input reads as it did. -/
def fnNamesUptoRow : OpenClaim := { program := "ytgchgcfjbjopkaadoor", sum := "3b855e08a6dba1165c5c9c6ac52570f4db2bfe4e5c54d85c716193f88bfdcd95", func := "loop.example/g00484/laws.FnNames", spec := "fnNames", inPlace := ["internal/bytealg.IndexByteString", "internal/bytealg.IndexString"], unfollowed := true, recurses := true, named := ["unicode/utf8.first", "unicode/utf8.acceptRanges", "internal/bytealg.MaxLen"], apart := false, laid := [("unicode/utf8.acceptRanges", laid_unicode_utf8_acceptRanges), ("unicode/utf8.first", laid_unicode_utf8_first)], narrowed := true }
def FnNamesUptoSaid : Prop := fnNamesUptoRow.holds Tryd.pinned (OpenSpec.upto fnNamesSpec)

/-- 'laws.FnScopes', WHERE WHAT IT READS IS OF BULK AT MOST 1048576: true; the input reads as it did. -/
def fnScopesUptoRow : OpenClaim := { program := "ytgchgcfjbjopkaadoor", sum := "3b855e08a6dba1165c5c9c6ac52570f4db2bfe4e5c54d85c716193f88bfdcd95", func := "loop.example/g00484/laws.FnScopes", spec := "fnScopes", unfollowed := true, recurses := true, named := ["unicode/utf8.first", "unicode/utf8.acceptRanges"], apart := false, laid := [("unicode/utf8.acceptRanges", laid_unicode_utf8_acceptRanges), ("unicode/utf8.first", laid_unicode_utf8_first)], narrowed := true }
def FnScopesUptoSaid : Prop := fnScopesUptoRow.holds Tryd.pinned (OpenSpec.upto fnScopesSpec)

end Rows
end Go.Proofs.YtgchgcfjbjopkaaDoor
