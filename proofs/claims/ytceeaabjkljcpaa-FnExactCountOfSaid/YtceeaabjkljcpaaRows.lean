/-
  NARROWER THAN 'FOR EVERY INPUT', by the rows' own cells (each row's printed sentence says how): FnExactCountOf: loops.
  DERIVED. THE GIVEN ROWS OF THIS SEAT. 4 by the template 'for every input the law returns true; each argument reads behind the call as it read before'; 0 by the template 'total and deterministic' (their statements: YtceeaabjkljcpaaTotals.lean).
  GIVEN WITH THE SEED: the statements are not yours to turn. If you find one false, say at which input.
  Laid BY PROGRAM, IN A SANDBOX (cutbox-rows.mjs): the forced cells as the released guide's own fill.sh prints them over the translation 8b4766fb31638660… (all of the seat's roots in one cut). By AI agents, Wed Nov 11 2026. No macro, syntax, notation, axiom, sorry.
-/
import Derived.Test.YtceeaabjkljcpaaChecked
import GoSem.Claim
import GoSem.ClaimJoined
import GoSem.ClaimMapViews
import Derived.JoinedTies
import Derived.KernelRfl
namespace Go.Proofs.Ytceeaabjkljcpaa
/- THE CELL 'sum', in the pinned program and in every row, IS THE sha256 OF THE DUMP (.gsa) THAT YtceeaabjkljcpaaProg.lean LOADS. Nothing in Lean hashes anything: it is a label: what it is worth is what the hold of that sum in a sandbox is worth. -/
noncomputable def Try.pinned : Pinned := { name := "ytceeaabjkljcpaa", sum := "8b4766fb31638660de1712af8cc907966f52af2ffc43d27807a68fd6f0c6f0aa", checked := Try.checked }
namespace Rows
def none {H : Type} : Left H := { results := [], args := [] }

/-- 'laws.FnExactPreFor': WHATEVER THE INPUT: true; the input reads as it did. -/
def fnExactPreForSpec : ChangeSpec := { name := "fnExactPreFor", fn := fun _ => fun
  | [d1, d2, d3] => { results := [.lit (.bool true)], args := [d1, d2, d3] }
  | _ => none }
def fnExactPreForRow : OpenClaim := { program := "ytceeaabjkljcpaa", sum := "8b4766fb31638660de1712af8cc907966f52af2ffc43d27807a68fd6f0c6f0aa", func := "loop.example/g00484/laws.FnExactPreFor", spec := "fnExactPreFor", unfollowed := true, recurses := true, apart := false }
def FnExactPreForSaid : Prop := fnExactPreForRow.holds Try.pinned (OpenSpec.ofChange fnExactPreForSpec)

/-- ITS FALSE NEIGHBOUR: 'it returns false'. Refute it at one input. -/
def fnExactPreForWrong : ChangeSpec := { name := "fnExactPreFor", fn := fun _ => fun
  | [d1, d2, d3] => { results := [.lit (.bool false)], args := [d1, d2, d3] }
  | _ => none }
def FnExactPreForWrongFalsely : Prop := fnExactPreForRow.holds Try.pinned (OpenSpec.ofChange fnExactPreForWrong)

/-- 'laws.FnExactInner': WHATEVER THE INPUT: true; the input reads as it did. -/
def fnExactInnerSpec : ChangeSpec := { name := "fnExactInner", fn := fun _ => fun
  | [d1, d2] => { results := [.lit (.bool true)], args := [d1, d2] }
  | _ => none }
def fnExactInnerRow : OpenClaim := { program := "ytceeaabjkljcpaa", sum := "8b4766fb31638660de1712af8cc907966f52af2ffc43d27807a68fd6f0c6f0aa", func := "loop.example/g00484/laws.FnExactInner", spec := "fnExactInner", apart := false }
def FnExactInnerSaid : Prop := fnExactInnerRow.holds Try.pinned (OpenSpec.ofChange fnExactInnerSpec)

/-- ITS FALSE NEIGHBOUR: 'it returns false'. Refute it at one input. -/
def fnExactInnerWrong : ChangeSpec := { name := "fnExactInner", fn := fun _ => fun
  | [d1, d2] => { results := [.lit (.bool false)], args := [d1, d2] }
  | _ => none }
def FnExactInnerWrongFalsely : Prop := fnExactInnerRow.holds Try.pinned (OpenSpec.ofChange fnExactInnerWrong)

/-- 'laws.FnMerges': WHATEVER THE INPUT: true; the input reads as it did. -/
def fnMergesSpec : ChangeSpec := { name := "fnMerges", fn := fun _ => fun
  | [d] => { results := [.lit (.bool true)], args := [d] }
  | _ => none }
def fnMergesRow : OpenClaim := { program := "ytceeaabjkljcpaa", sum := "8b4766fb31638660de1712af8cc907966f52af2ffc43d27807a68fd6f0c6f0aa", func := "loop.example/g00484/laws.FnMerges", spec := "fnMerges", unfollowed := true, recurses := true, apart := false }
def FnMergesSaid : Prop := fnMergesRow.holds Try.pinned (OpenSpec.ofChange fnMergesSpec)

/-- ITS FALSE NEIGHBOUR: 'it returns false'. Refute it at one input. -/
def fnMergesWrong : ChangeSpec := { name := "fnMerges", fn := fun _ => fun
  | [d] => { results := [.lit (.bool false)], args := [d] }
  | _ => none }
def FnMergesWrongFalsely : Prop := fnMergesRow.holds Try.pinned (OpenSpec.ofChange fnMergesWrong)

/-- 'laws.FnExactCountOf': WHATEVER THE INPUT: true; the input reads as it did. -/
def fnExactCountOfSpec : ChangeSpec := { name := "fnExactCountOf", fn := fun _ => fun
  | [d] => { results := [.lit (.bool true)], args := [d] }
  | _ => none }
def fnExactCountOfRow : OpenClaim := { program := "ytceeaabjkljcpaa", sum := "8b4766fb31638660de1712af8cc907966f52af2ffc43d27807a68fd6f0c6f0aa", func := "loop.example/g00484/laws.FnExactCountOf", spec := "fnExactCountOf", recurses := true, loops := true, apart := false }
def FnExactCountOfSaid : Prop := fnExactCountOfRow.holds Try.pinned (OpenSpec.ofChange fnExactCountOfSpec)

/-- ITS FALSE NEIGHBOUR: 'it returns false'. Refute it at one input. -/
def fnExactCountOfWrong : ChangeSpec := { name := "fnExactCountOf", fn := fun _ => fun
  | [d] => { results := [.lit (.bool false)], args := [d] }
  | _ => none }
def FnExactCountOfWrongFalsely : Prop := fnExactCountOfRow.holds Try.pinned (OpenSpec.ofChange fnExactCountOfWrong)

/- THE SECOND FORM. 'bulk': how many values and letters a reading holds, each counted each time it is reached (what is shared counts as often as it is met; a slice's spare places count too). A statement '..UptoSaid' is the law's where the arguments, and the package variables that the reading takes, are together of bulk at most 1048576: NARROWER than '..Said'. Prove '..Said' where nothing that the law and all that it calls make is longer than what came in: it says more and counts as full. Else prove '..UptoSaid'. A law counts once. -/
mutual
def uptoBulk {H : Type} : DataW H → Nat
  | .lit (.string bytes) => bytes.length + 1
  | .lit _ => 1
  | .nil => 1
  | .ptr d => uptoBulk d + 1
  | .slice elems spare => uptoBulkAll elems + uptoBulkAll spare + 1
  | .agg parts => uptoBulkAll parts + 1
  | .iface _ d => uptoBulk d + 1
  | .map entries => uptoBulkEntries entries + 1
  | .held _ => 1
def uptoBulkAll {H : Type} : List (DataW H) → Nat
  | [] => 0
  | d :: r => uptoBulk d + uptoBulkAll r
def uptoBulkEntries {H : Type} : List (Lit × DataW H) → Nat
  | [] => 0
  | x :: r => uptoBulkEntry x + uptoBulkEntries r
def uptoBulkEntry {H : Type} : Lit × DataW H → Nat
  | (.string bytes, d) => bytes.length + uptoBulk d + 1
  | (_, d) => uptoBulk d + 1
 end
def uptoSmall : (H : Type) → List (DataW H) → Bool := fun _ ds => decide (uptoBulkAll ds ≤ 1048576)
def OpenSpec.upto (s : _root_.Go.ChangeSpec) : _root_.Go.OpenSpec := { _root_.Go.OpenSpec.ofChange s with cond := some uptoSmall }

/-- 'laws.FnExactPreFor', WHERE WHAT IT READS IS OF BULK AT MOST 1048576: true; the input reads as it did. -/
def fnExactPreForUptoRow : OpenClaim := { program := "ytceeaabjkljcpaa", sum := "8b4766fb31638660de1712af8cc907966f52af2ffc43d27807a68fd6f0c6f0aa", func := "loop.example/g00484/laws.FnExactPreFor", spec := "fnExactPreFor", unfollowed := true, recurses := true, apart := false, narrowed := true }
def FnExactPreForUptoSaid : Prop := fnExactPreForUptoRow.holds Try.pinned (OpenSpec.upto fnExactPreForSpec)

/-- 'laws.FnExactInner', WHERE WHAT IT READS IS OF BULK AT MOST 1048576: true; the input reads as it did. -/
def fnExactInnerUptoRow : OpenClaim := { program := "ytceeaabjkljcpaa", sum := "8b4766fb31638660de1712af8cc907966f52af2ffc43d27807a68fd6f0c6f0aa", func := "loop.example/g00484/laws.FnExactInner", spec := "fnExactInner", apart := false, narrowed := true }
def FnExactInnerUptoSaid : Prop := fnExactInnerUptoRow.holds Try.pinned (OpenSpec.upto fnExactInnerSpec)

/-- 'laws.FnMerges', WHERE WHAT IT READS IS OF BULK AT MOST 1048576: true; the input reads as it did. -/
def fnMergesUptoRow : OpenClaim := { program := "ytceeaabjkljcpaa", sum := "8b4766fb31638660de1712af8cc907966f52af2ffc43d27807a68fd6f0c6f0aa", func := "loop.example/g00484/laws.FnMerges", spec := "fnMerges", unfollowed := true, recurses := true, apart := false, narrowed := true }
def FnMergesUptoSaid : Prop := fnMergesUptoRow.holds Try.pinned (OpenSpec.upto fnMergesSpec)

/-- 'laws.FnExactCountOf', WHERE WHAT IT READS IS OF BULK AT MOST 1048576: true; the input reads as it did. -/
def fnExactCountOfUptoRow : OpenClaim := { program := "ytceeaabjkljcpaa", sum := "8b4766fb31638660de1712af8cc907966f52af2ffc43d27807a68fd6f0c6f0aa", func := "loop.example/g00484/laws.FnExactCountOf", spec := "fnExactCountOf", recurses := true, loops := true, apart := false, narrowed := true }
def FnExactCountOfUptoSaid : Prop := fnExactCountOfUptoRow.holds Try.pinned (OpenSpec.upto fnExactCountOfSpec)

end Rows
end Go.Proofs.Ytceeaabjkljcpaa
