/-
  No cell of these rows narrows 'for every input' (looked for: loops, veiled, ifaces, maps, wideKeys, modest, calm, conditions, laid).
  DERIVED. THE GIVEN ROWS OF THIS SEAT. 12 by the template 'for every input the law returns true; each argument reads behind the call as it read before'; 0 by the template 'total and deterministic' (their statements: YtekopaanhedipaaTotals.lean).
  GIVEN WITH THE SEED: the statements are not yours to turn. If you find one false, say at which input.
  Laid BY PROGRAM, IN A SANDBOX (cutbox-rows.mjs): the forced cells as the released guide's own fill.sh prints them over the translation 80de7a2f91dd2c37… (all of the seat's roots in one cut). By AI agents, Wed Nov 11 2026. No macro, syntax, notation, axiom, sorry.
-/
import Derived.Test.YtekopaanhedipaaChecked
import GoSem.Claim
import GoSem.ClaimJoined
import GoSem.ClaimMapViews
import Derived.JoinedTies
import Derived.KernelRfl
namespace Go.Proofs.Ytekopaanhedipaa
/- THE CELL 'sum', in the pinned program and in every row, IS THE sha256 OF THE DUMP (.gsa) THAT YtekopaanhedipaaProg.lean LOADS. Nothing in Lean hashes anything: it is a label: what it is worth is what the hold of that sum in a sandbox is worth. -/
noncomputable def Try.pinned : Pinned := { name := "ytekopaanhedipaa", sum := "80de7a2f91dd2c374aea988ab56c6199035d38524aa56ef36b758c3b1dc296c2", checked := Try.checked }
namespace Rows
def none {H : Type} : Left H := { results := [], args := [] }

/-- 'laws.FnExactConstants': WHATEVER THE INPUT: true; the input reads as it did. -/
def fnExactConstantsSpec : ChangeSpec := { name := "fnExactConstants", fn := fun _ => fun
  | [] => { results := [.lit (.bool true)], args := [] }
  | _ => none }
def fnExactConstantsRow : OpenClaim := { program := "ytekopaanhedipaa", sum := "80de7a2f91dd2c374aea988ab56c6199035d38524aa56ef36b758c3b1dc296c2", func := "loop.example/g00484/laws.FnExactConstants", spec := "fnExactConstants", apart := false }
def FnExactConstantsSaid : Prop := fnExactConstantsRow.holds Try.pinned (OpenSpec.ofChange fnExactConstantsSpec)

/-- ITS FALSE NEIGHBOUR: 'it returns false'. Refute it at one input. -/
def fnExactConstantsWrong : ChangeSpec := { name := "fnExactConstants", fn := fun _ => fun
  | [] => { results := [.lit (.bool false)], args := [] }
  | _ => none }
def FnExactConstantsWrongFalsely : Prop := fnExactConstantsRow.holds Try.pinned (OpenSpec.ofChange fnExactConstantsWrong)

/-- 'laws.FnExactIsBlank': WHATEVER THE INPUT: true; the input reads as it did. -/
def fnExactIsBlankSpec : ChangeSpec := { name := "fnExactIsBlank", fn := fun _ => fun
  | [d] => { results := [.lit (.bool true)], args := [d] }
  | _ => none }
def fnExactIsBlankRow : OpenClaim := { program := "ytekopaanhedipaa", sum := "80de7a2f91dd2c374aea988ab56c6199035d38524aa56ef36b758c3b1dc296c2", func := "loop.example/g00484/laws.FnExactIsBlank", spec := "fnExactIsBlank", apart := false }
def FnExactIsBlankSaid : Prop := fnExactIsBlankRow.holds Try.pinned (OpenSpec.ofChange fnExactIsBlankSpec)

/-- ITS FALSE NEIGHBOUR: 'it returns false'. Refute it at one input. -/
def fnExactIsBlankWrong : ChangeSpec := { name := "fnExactIsBlank", fn := fun _ => fun
  | [d] => { results := [.lit (.bool false)], args := [d] }
  | _ => none }
def FnExactIsBlankWrongFalsely : Prop := fnExactIsBlankRow.holds Try.pinned (OpenSpec.ofChange fnExactIsBlankWrong)

/-- 'laws.FnExactBlanks': WHATEVER THE INPUT: true; the input reads as it did. -/
def fnExactBlanksSpec : ChangeSpec := { name := "fnExactBlanks", fn := fun _ => fun
  | [d1, d2] => { results := [.lit (.bool true)], args := [d1, d2] }
  | _ => none }
def fnExactBlanksRow : OpenClaim := { program := "ytekopaanhedipaa", sum := "80de7a2f91dd2c374aea988ab56c6199035d38524aa56ef36b758c3b1dc296c2", func := "loop.example/g00484/laws.FnExactBlanks", spec := "fnExactBlanks", apart := false }
def FnExactBlanksSaid : Prop := fnExactBlanksRow.holds Try.pinned (OpenSpec.ofChange fnExactBlanksSpec)

/-- ITS FALSE NEIGHBOUR: 'it returns false'. Refute it at one input. -/
def fnExactBlanksWrong : ChangeSpec := { name := "fnExactBlanks", fn := fun _ => fun
  | [d1, d2] => { results := [.lit (.bool false)], args := [d1, d2] }
  | _ => none }
def FnExactBlanksWrongFalsely : Prop := fnExactBlanksRow.holds Try.pinned (OpenSpec.ofChange fnExactBlanksWrong)

/-- 'laws.FnExactAllBlank': WHATEVER THE INPUT: true; the input reads as it did. -/
def fnExactAllBlankSpec : ChangeSpec := { name := "fnExactAllBlank", fn := fun _ => fun
  | [d] => { results := [.lit (.bool true)], args := [d] }
  | _ => none }
def fnExactAllBlankRow : OpenClaim := { program := "ytekopaanhedipaa", sum := "80de7a2f91dd2c374aea988ab56c6199035d38524aa56ef36b758c3b1dc296c2", func := "loop.example/g00484/laws.FnExactAllBlank", spec := "fnExactAllBlank", apart := false }
def FnExactAllBlankSaid : Prop := fnExactAllBlankRow.holds Try.pinned (OpenSpec.ofChange fnExactAllBlankSpec)

/-- ITS FALSE NEIGHBOUR: 'it returns false'. Refute it at one input. -/
def fnExactAllBlankWrong : ChangeSpec := { name := "fnExactAllBlank", fn := fun _ => fun
  | [d] => { results := [.lit (.bool false)], args := [d] }
  | _ => none }
def FnExactAllBlankWrongFalsely : Prop := fnExactAllBlankRow.holds Try.pinned (OpenSpec.ofChange fnExactAllBlankWrong)

/-- 'laws.FnExactSignText': WHATEVER THE INPUT: true; the input reads as it did. -/
def fnExactSignTextSpec : ChangeSpec := { name := "fnExactSignText", fn := fun _ => fun
  | [d] => { results := [.lit (.bool true)], args := [d] }
  | _ => none }
def fnExactSignTextRow : OpenClaim := { program := "ytekopaanhedipaa", sum := "80de7a2f91dd2c374aea988ab56c6199035d38524aa56ef36b758c3b1dc296c2", func := "loop.example/g00484/laws.FnExactSignText", spec := "fnExactSignText", apart := false }
def FnExactSignTextSaid : Prop := fnExactSignTextRow.holds Try.pinned (OpenSpec.ofChange fnExactSignTextSpec)

/-- ITS FALSE NEIGHBOUR: 'it returns false'. Refute it at one input. -/
def fnExactSignTextWrong : ChangeSpec := { name := "fnExactSignText", fn := fun _ => fun
  | [d] => { results := [.lit (.bool false)], args := [d] }
  | _ => none }
def FnExactSignTextWrongFalsely : Prop := fnExactSignTextRow.holds Try.pinned (OpenSpec.ofChange fnExactSignTextWrong)

/-- 'laws.FnExactIsSign': WHATEVER THE INPUT: true; the input reads as it did. -/
def fnExactIsSignSpec : ChangeSpec := { name := "fnExactIsSign", fn := fun _ => fun
  | [d] => { results := [.lit (.bool true)], args := [d] }
  | _ => none }
def fnExactIsSignRow : OpenClaim := { program := "ytekopaanhedipaa", sum := "80de7a2f91dd2c374aea988ab56c6199035d38524aa56ef36b758c3b1dc296c2", func := "loop.example/g00484/laws.FnExactIsSign", spec := "fnExactIsSign", unfollowed := true, recurses := true, apart := false }
def FnExactIsSignSaid : Prop := fnExactIsSignRow.holds Try.pinned (OpenSpec.ofChange fnExactIsSignSpec)

/-- ITS FALSE NEIGHBOUR: 'it returns false'. Refute it at one input. -/
def fnExactIsSignWrong : ChangeSpec := { name := "fnExactIsSign", fn := fun _ => fun
  | [d] => { results := [.lit (.bool false)], args := [d] }
  | _ => none }
def FnExactIsSignWrongFalsely : Prop := fnExactIsSignRow.holds Try.pinned (OpenSpec.ofChange fnExactIsSignWrong)

/-- 'laws.FnExactIsStart': WHATEVER THE INPUT: true; the input reads as it did. -/
def fnExactIsStartSpec : ChangeSpec := { name := "fnExactIsStart", fn := fun _ => fun
  | [d] => { results := [.lit (.bool true)], args := [d] }
  | _ => none }
def fnExactIsStartRow : OpenClaim := { program := "ytekopaanhedipaa", sum := "80de7a2f91dd2c374aea988ab56c6199035d38524aa56ef36b758c3b1dc296c2", func := "loop.example/g00484/laws.FnExactIsStart", spec := "fnExactIsStart", unfollowed := true, recurses := true, apart := false }
def FnExactIsStartSaid : Prop := fnExactIsStartRow.holds Try.pinned (OpenSpec.ofChange fnExactIsStartSpec)

/-- ITS FALSE NEIGHBOUR: 'it returns false'. Refute it at one input. -/
def fnExactIsStartWrong : ChangeSpec := { name := "fnExactIsStart", fn := fun _ => fun
  | [d] => { results := [.lit (.bool false)], args := [d] }
  | _ => none }
def FnExactIsStartWrongFalsely : Prop := fnExactIsStartRow.holds Try.pinned (OpenSpec.ofChange fnExactIsStartWrong)

/-- 'laws.FnExactIsPart': WHATEVER THE INPUT: true; the input reads as it did. -/
def fnExactIsPartSpec : ChangeSpec := { name := "fnExactIsPart", fn := fun _ => fun
  | [d] => { results := [.lit (.bool true)], args := [d] }
  | _ => none }
def fnExactIsPartRow : OpenClaim := { program := "ytekopaanhedipaa", sum := "80de7a2f91dd2c374aea988ab56c6199035d38524aa56ef36b758c3b1dc296c2", func := "loop.example/g00484/laws.FnExactIsPart", spec := "fnExactIsPart", unfollowed := true, recurses := true, apart := false }
def FnExactIsPartSaid : Prop := fnExactIsPartRow.holds Try.pinned (OpenSpec.ofChange fnExactIsPartSpec)

/-- ITS FALSE NEIGHBOUR: 'it returns false'. Refute it at one input. -/
def fnExactIsPartWrong : ChangeSpec := { name := "fnExactIsPart", fn := fun _ => fun
  | [d] => { results := [.lit (.bool false)], args := [d] }
  | _ => none }
def FnExactIsPartWrongFalsely : Prop := fnExactIsPartRow.holds Try.pinned (OpenSpec.ofChange fnExactIsPartWrong)

/-- 'laws.FnExactUnder': WHATEVER THE INPUT: true; the input reads as it did. -/
def fnExactUnderSpec : ChangeSpec := { name := "fnExactUnder", fn := fun _ => fun
  | [d1, d2] => { results := [.lit (.bool true)], args := [d1, d2] }
  | _ => none }
def fnExactUnderRow : OpenClaim := { program := "ytekopaanhedipaa", sum := "80de7a2f91dd2c374aea988ab56c6199035d38524aa56ef36b758c3b1dc296c2", func := "loop.example/g00484/laws.FnExactUnder", spec := "fnExactUnder", apart := false }
def FnExactUnderSaid : Prop := fnExactUnderRow.holds Try.pinned (OpenSpec.ofChange fnExactUnderSpec)

/-- ITS FALSE NEIGHBOUR: 'it returns false'. Refute it at one input. -/
def fnExactUnderWrong : ChangeSpec := { name := "fnExactUnder", fn := fun _ => fun
  | [d1, d2] => { results := [.lit (.bool false)], args := [d1, d2] }
  | _ => none }
def FnExactUnderWrongFalsely : Prop := fnExactUnderRow.holds Try.pinned (OpenSpec.ofChange fnExactUnderWrong)

/-- 'laws.FnExactSamePath': WHATEVER THE INPUT: true; the input reads as it did. -/
def fnExactSamePathSpec : ChangeSpec := { name := "fnExactSamePath", fn := fun _ => fun
  | [d1, d2] => { results := [.lit (.bool true)], args := [d1, d2] }
  | _ => none }
def fnExactSamePathRow : OpenClaim := { program := "ytekopaanhedipaa", sum := "80de7a2f91dd2c374aea988ab56c6199035d38524aa56ef36b758c3b1dc296c2", func := "loop.example/g00484/laws.FnExactSamePath", spec := "fnExactSamePath", apart := false }
def FnExactSamePathSaid : Prop := fnExactSamePathRow.holds Try.pinned (OpenSpec.ofChange fnExactSamePathSpec)

/-- ITS FALSE NEIGHBOUR: 'it returns false'. Refute it at one input. -/
def fnExactSamePathWrong : ChangeSpec := { name := "fnExactSamePath", fn := fun _ => fun
  | [d1, d2] => { results := [.lit (.bool false)], args := [d1, d2] }
  | _ => none }
def FnExactSamePathWrongFalsely : Prop := fnExactSamePathRow.holds Try.pinned (OpenSpec.ofChange fnExactSamePathWrong)

/-- 'laws.FnExactSpaceOf': WHATEVER THE INPUT: true; the input reads as it did. -/
def fnExactSpaceOfSpec : ChangeSpec := { name := "fnExactSpaceOf", fn := fun _ => fun
  | [d1, d2] => { results := [.lit (.bool true)], args := [d1, d2] }
  | _ => none }
def fnExactSpaceOfRow : OpenClaim := { program := "ytekopaanhedipaa", sum := "80de7a2f91dd2c374aea988ab56c6199035d38524aa56ef36b758c3b1dc296c2", func := "loop.example/g00484/laws.FnExactSpaceOf", spec := "fnExactSpaceOf", unfollowed := true, recurses := true, apart := false }
def FnExactSpaceOfSaid : Prop := fnExactSpaceOfRow.holds Try.pinned (OpenSpec.ofChange fnExactSpaceOfSpec)

/-- ITS FALSE NEIGHBOUR: 'it returns false'. Refute it at one input. -/
def fnExactSpaceOfWrong : ChangeSpec := { name := "fnExactSpaceOf", fn := fun _ => fun
  | [d1, d2] => { results := [.lit (.bool false)], args := [d1, d2] }
  | _ => none }
def FnExactSpaceOfWrongFalsely : Prop := fnExactSpaceOfRow.holds Try.pinned (OpenSpec.ofChange fnExactSpaceOfWrong)

/-- 'laws.FnExactDefOf': WHATEVER THE INPUT: true; the input reads as it did. -/
def fnExactDefOfSpec : ChangeSpec := { name := "fnExactDefOf", fn := fun _ => fun
  | [d1, d2, d3] => { results := [.lit (.bool true)], args := [d1, d2, d3] }
  | _ => none }
def fnExactDefOfRow : OpenClaim := { program := "ytekopaanhedipaa", sum := "80de7a2f91dd2c374aea988ab56c6199035d38524aa56ef36b758c3b1dc296c2", func := "loop.example/g00484/laws.FnExactDefOf", spec := "fnExactDefOf", unfollowed := true, recurses := true, apart := false }
def FnExactDefOfSaid : Prop := fnExactDefOfRow.holds Try.pinned (OpenSpec.ofChange fnExactDefOfSpec)

/-- ITS FALSE NEIGHBOUR: 'it returns false'. Refute it at one input. -/
def fnExactDefOfWrong : ChangeSpec := { name := "fnExactDefOf", fn := fun _ => fun
  | [d1, d2, d3] => { results := [.lit (.bool false)], args := [d1, d2, d3] }
  | _ => none }
def FnExactDefOfWrongFalsely : Prop := fnExactDefOfRow.holds Try.pinned (OpenSpec.ofChange fnExactDefOfWrong)

/- THE SECOND FORM. 'bulk': how many values and letters a reading holds, each counted each time it is reached (what is shared counts as often as it is met; a slice's spare places count too). A statement '..UptoSaid' is the law's where the arguments, and the package variables that the reading takes, are together of bulk at most 1048576: NARROWER than '..Said'. Prove '..Said' where nothing that the law and all that it calls make is longer than what came in: it says more and counts as full. Else prove '..UptoSaid'. A law counts once. -/
mutual
def uptoBulk {H : Type} : DataW H → Nat
  | .lit (.string bytes) => bytes.length + 1
  | .lit _ => 1
  | .nil => 1
  | .ptr d => uptoBulk d + 1
  | .slice elems spare => uptoBulkAll elems + uptoBulkAll spare + 1
  | .agg parts => uptoBulkAll parts + 1
  | .iface _ d => uptoBulk d + 1
  | .map entries => uptoBulkEntries entries + 1
  | .held _ => 1
def uptoBulkAll {H : Type} : List (DataW H) → Nat
  | [] => 0
  | d :: r => uptoBulk d + uptoBulkAll r
def uptoBulkEntries {H : Type} : List (Lit × DataW H) → Nat
  | [] => 0
  | x :: r => uptoBulkEntry x + uptoBulkEntries r
def uptoBulkEntry {H : Type} : Lit × DataW H → Nat
  | (.string bytes, d) => bytes.length + uptoBulk d + 1
  | (_, d) => uptoBulk d + 1
 end
def uptoSmall : (H : Type) → List (DataW H) → Bool := fun _ ds => decide (uptoBulkAll ds ≤ 1048576)
def OpenSpec.upto (s : _root_.Go.ChangeSpec) : _root_.Go.OpenSpec := { _root_.Go.OpenSpec.ofChange s with cond := some uptoSmall }

/-- 'laws.FnExactConstants', WHERE WHAT IT READS IS OF BULK AT MOST 1048576: true; the input reads as it did. -/
def fnExactConstantsUptoRow : OpenClaim := { program := "ytekopaanhedipaa", sum := "80de7a2f91dd2c374aea988ab56c6199035d38524aa56ef36b758c3b1dc296c2", func := "loop.example/g00484/laws.FnExactConstants", spec := "fnExactConstants", apart := false, narrowed := true }
def FnExactConstantsUptoSaid : Prop := fnExactConstantsUptoRow.holds Try.pinned (OpenSpec.upto fnExactConstantsSpec)

/-- 'laws.FnExactIsBlank', WHERE WHAT IT READS IS OF BULK AT MOST 1048576: true; the input reads as it did. -/
def fnExactIsBlankUptoRow : OpenClaim := { program := "ytekopaanhedipaa", sum := "80de7a2f91dd2c374aea988ab56c6199035d38524aa56ef36b758c3b1dc296c2", func := "loop.example/g00484/laws.FnExactIsBlank", spec := "fnExactIsBlank", apart := false, narrowed := true }
def FnExactIsBlankUptoSaid : Prop := fnExactIsBlankUptoRow.holds Try.pinned (OpenSpec.upto fnExactIsBlankSpec)

/-- 'laws.FnExactBlanks', WHERE WHAT IT READS IS OF BULK AT MOST 1048576: true; the input reads as it did. -/
def fnExactBlanksUptoRow : OpenClaim := { program := "ytekopaanhedipaa", sum := "80de7a2f91dd2c374aea988ab56c6199035d38524aa56ef36b758c3b1dc296c2", func := "loop.example/g00484/laws.FnExactBlanks", spec := "fnExactBlanks", apart := false, narrowed := true }
def FnExactBlanksUptoSaid : Prop := fnExactBlanksUptoRow.holds Try.pinned (OpenSpec.upto fnExactBlanksSpec)

/-- 'laws.FnExactAllBlank', WHERE WHAT IT READS IS OF BULK AT MOST 1048576: true; the input reads as it did. -/
def fnExactAllBlankUptoRow : OpenClaim := { program := "ytekopaanhedipaa", sum := "80de7a2f91dd2c374aea988ab56c6199035d38524aa56ef36b758c3b1dc296c2", func := "loop.example/g00484/laws.FnExactAllBlank", spec := "fnExactAllBlank", apart := false, narrowed := true }
def FnExactAllBlankUptoSaid : Prop := fnExactAllBlankUptoRow.holds Try.pinned (OpenSpec.upto fnExactAllBlankSpec)

/-- 'laws.FnExactSignText', WHERE WHAT IT READS IS OF BULK AT MOST 1048576: true; the input reads as it did. -/
def fnExactSignTextUptoRow : OpenClaim := { program := "ytekopaanhedipaa", sum := "80de7a2f91dd2c374aea988ab56c6199035d38524aa56ef36b758c3b1dc296c2", func := "loop.example/g00484/laws.FnExactSignText", spec := "fnExactSignText", apart := false, narrowed := true }
def FnExactSignTextUptoSaid : Prop := fnExactSignTextUptoRow.holds Try.pinned (OpenSpec.upto fnExactSignTextSpec)

/-- 'laws.FnExactIsSign', WHERE WHAT IT READS IS OF BULK AT MOST 1048576: true; the input reads as it did. -/
def fnExactIsSignUptoRow : OpenClaim := { program := "ytekopaanhedipaa", sum := "80de7a2f91dd2c374aea988ab56c6199035d38524aa56ef36b758c3b1dc296c2", func := "loop.example/g00484/laws.FnExactIsSign", spec := "fnExactIsSign", unfollowed := true, recurses := true, apart := false, narrowed := true }
def FnExactIsSignUptoSaid : Prop := fnExactIsSignUptoRow.holds Try.pinned (OpenSpec.upto fnExactIsSignSpec)

/-- 'laws.FnExactIsStart', WHERE WHAT IT READS IS OF BULK AT MOST 1048576: true; the input reads as it did. -/
def fnExactIsStartUptoRow : OpenClaim := { program := "ytekopaanhedipaa", sum := "80de7a2f91dd2c374aea988ab56c6199035d38524aa56ef36b758c3b1dc296c2", func := "loop.example/g00484/laws.FnExactIsStart", spec := "fnExactIsStart", unfollowed := true, recurses := true, apart := false, narrowed := true }
def FnExactIsStartUptoSaid : Prop := fnExactIsStartUptoRow.holds Try.pinned (OpenSpec.upto fnExactIsStartSpec)

/-- 'laws.FnExactIsPart', WHERE WHAT IT READS IS OF BULK AT MOST 1048576: true; the input reads as it did. -/
def fnExactIsPartUptoRow : OpenClaim := { program := "ytekopaanhedipaa", sum := "80de7a2f91dd2c374aea988ab56c6199035d38524aa56ef36b758c3b1dc296c2", func := "loop.example/g00484/laws.FnExactIsPart", spec := "fnExactIsPart", unfollowed := true, recurses := true, apart := false, narrowed := true }
def FnExactIsPartUptoSaid : Prop := fnExactIsPartUptoRow.holds Try.pinned (OpenSpec.upto fnExactIsPartSpec)

/-- 'laws.FnExactUnder', WHERE WHAT IT READS IS OF BULK AT MOST 1048576: true; the input reads as it did. -/
def fnExactUnderUptoRow : OpenClaim := { program := "ytekopaanhedipaa", sum := "80de7a2f91dd2c374aea988ab56c6199035d38524aa56ef36b758c3b1dc296c2", func := "loop.example/g00484/laws.FnExactUnder", spec := "fnExactUnder", apart := false, narrowed := true }
def FnExactUnderUptoSaid : Prop := fnExactUnderUptoRow.holds Try.pinned (OpenSpec.upto fnExactUnderSpec)

/-- 'laws.FnExactSamePath', WHERE WHAT IT READS IS OF BULK AT MOST 1048576: true; the input reads as it did. -/
def fnExactSamePathUptoRow : OpenClaim := { program := "ytekopaanhedipaa", sum := "80de7a2f91dd2c374aea988ab56c6199035d38524aa56ef36b758c3b1dc296c2", func := "loop.example/g00484/laws.FnExactSamePath", spec := "fnExactSamePath", apart := false, narrowed := true }
def FnExactSamePathUptoSaid : Prop := fnExactSamePathUptoRow.holds Try.pinned (OpenSpec.upto fnExactSamePathSpec)

/-- 'laws.FnExactSpaceOf', WHERE WHAT IT READS IS OF BULK AT MOST 1048576: true; the input reads as it did. -/
def fnExactSpaceOfUptoRow : OpenClaim := { program := "ytekopaanhedipaa", sum := "80de7a2f91dd2c374aea988ab56c6199035d38524aa56ef36b758c3b1dc296c2", func := "loop.example/g00484/laws.FnExactSpaceOf", spec := "fnExactSpaceOf", unfollowed := true, recurses := true, apart := false, narrowed := true }
def FnExactSpaceOfUptoSaid : Prop := fnExactSpaceOfUptoRow.holds Try.pinned (OpenSpec.upto fnExactSpaceOfSpec)

/-- 'laws.FnExactDefOf', WHERE WHAT IT READS IS OF BULK AT MOST 1048576: true; the input reads as it did. -/
def fnExactDefOfUptoRow : OpenClaim := { program := "ytekopaanhedipaa", sum := "80de7a2f91dd2c374aea988ab56c6199035d38524aa56ef36b758c3b1dc296c2", func := "loop.example/g00484/laws.FnExactDefOf", spec := "fnExactDefOf", unfollowed := true, recurses := true, apart := false, narrowed := true }
def FnExactDefOfUptoSaid : Prop := fnExactDefOfUptoRow.holds Try.pinned (OpenSpec.upto fnExactDefOfSpec)

end Rows
end Go.Proofs.Ytekopaanhedipaa
