/-
  NARROWER THAN 'FOR EVERY INPUT', by the rows' own cells (each row's printed sentence says how): FnExactFitsIn: loops · FnExactSameNode: loops · FnExactPlaces: loops · FnExactMerge: loops · FnExactNodeAt: loops · FnExactInsertAt: loops.
  DERIVED. THE GIVEN ROWS OF THIS SEAT. 10 by the template 'for every input the law returns true; each argument reads behind the call as it read before'; 0 by the template 'total and deterministic' (their statements: YtehlkajccnmddaaTotals.lean).
  GIVEN WITH THE SEED: the statements are not yours to turn. If you find one false, say at which input.
  Laid BY PROGRAM, IN A SANDBOX (cutbox-rows.mjs): the forced cells as the released guide's own fill.sh prints them over the translation 102aa58084dbaa85… (all of the seat's roots in one cut). By AI agents, Wed Nov 11 2026. No macro, syntax, notation, axiom, sorry.
-/
import Derived.Test.YtehlkajccnmddaaChecked
import GoSem.Claim
import GoSem.ClaimJoined
import GoSem.ClaimMapViews
import Derived.JoinedTies
import Derived.KernelRfl
namespace Go.Proofs.Ytehlkajccnmddaa
/- THE CELL 'sum', in the pinned program and in every row, IS THE sha256 OF THE DUMP (.gsa) THAT YtehlkajccnmddaaProg.lean LOADS. Nothing in Lean hashes anything: it is a label: what it is worth is what the hold of that sum in a sandbox is worth. -/
noncomputable def Try.pinned : Pinned := { name := "ytehlkajccnmddaa", sum := "102aa58084dbaa85c251d23fefeeac32bd4576de4457d2e837d53d07f79ee885", checked := Try.checked }
namespace Rows
def none {H : Type} : Left H := { results := [], args := [] }

/-- 'laws.FnExactSpaceOf': WHATEVER THE INPUT: true; the input reads as it did. -/
def fnExactSpaceOfSpec : ChangeSpec := { name := "fnExactSpaceOf", fn := fun _ => fun
  | [d1, d2] => { results := [.lit (.bool true)], args := [d1, d2] }
  | _ => none }
def fnExactSpaceOfRow : OpenClaim := { program := "ytehlkajccnmddaa", sum := "102aa58084dbaa85c251d23fefeeac32bd4576de4457d2e837d53d07f79ee885", func := "loop.example/g00484/laws.FnExactSpaceOf", spec := "fnExactSpaceOf", unfollowed := true, recurses := true, apart := false }
def FnExactSpaceOfSaid : Prop := fnExactSpaceOfRow.holds Try.pinned (OpenSpec.ofChange fnExactSpaceOfSpec)

/-- ITS FALSE NEIGHBOUR: 'it returns false'. Refute it at one input. -/
def fnExactSpaceOfWrong : ChangeSpec := { name := "fnExactSpaceOf", fn := fun _ => fun
  | [d1, d2] => { results := [.lit (.bool false)], args := [d1, d2] }
  | _ => none }
def FnExactSpaceOfWrongFalsely : Prop := fnExactSpaceOfRow.holds Try.pinned (OpenSpec.ofChange fnExactSpaceOfWrong)

/-- 'laws.FnExactInner': WHATEVER THE INPUT: true; the input reads as it did. -/
def fnExactInnerSpec : ChangeSpec := { name := "fnExactInner", fn := fun _ => fun
  | [d1, d2] => { results := [.lit (.bool true)], args := [d1, d2] }
  | _ => none }
def fnExactInnerRow : OpenClaim := { program := "ytehlkajccnmddaa", sum := "102aa58084dbaa85c251d23fefeeac32bd4576de4457d2e837d53d07f79ee885", func := "loop.example/g00484/laws.FnExactInner", spec := "fnExactInner", apart := false }
def FnExactInnerSaid : Prop := fnExactInnerRow.holds Try.pinned (OpenSpec.ofChange fnExactInnerSpec)

/-- ITS FALSE NEIGHBOUR: 'it returns false'. Refute it at one input. -/
def fnExactInnerWrong : ChangeSpec := { name := "fnExactInner", fn := fun _ => fun
  | [d1, d2] => { results := [.lit (.bool false)], args := [d1, d2] }
  | _ => none }
def FnExactInnerWrongFalsely : Prop := fnExactInnerRow.holds Try.pinned (OpenSpec.ofChange fnExactInnerWrong)

/-- 'laws.FnExactPreFor': WHATEVER THE INPUT: true; the input reads as it did. -/
def fnExactPreForSpec : ChangeSpec := { name := "fnExactPreFor", fn := fun _ => fun
  | [d1, d2, d3] => { results := [.lit (.bool true)], args := [d1, d2, d3] }
  | _ => none }
def fnExactPreForRow : OpenClaim := { program := "ytehlkajccnmddaa", sum := "102aa58084dbaa85c251d23fefeeac32bd4576de4457d2e837d53d07f79ee885", func := "loop.example/g00484/laws.FnExactPreFor", spec := "fnExactPreFor", unfollowed := true, recurses := true, apart := false }
def FnExactPreForSaid : Prop := fnExactPreForRow.holds Try.pinned (OpenSpec.ofChange fnExactPreForSpec)

/-- ITS FALSE NEIGHBOUR: 'it returns false'. Refute it at one input. -/
def fnExactPreForWrong : ChangeSpec := { name := "fnExactPreFor", fn := fun _ => fun
  | [d1, d2, d3] => { results := [.lit (.bool false)], args := [d1, d2, d3] }
  | _ => none }
def FnExactPreForWrongFalsely : Prop := fnExactPreForRow.holds Try.pinned (OpenSpec.ofChange fnExactPreForWrong)

/-- 'laws.FnExactFitsIn': WHATEVER THE INPUT: true; the input reads as it did. -/
def fnExactFitsInSpec : ChangeSpec := { name := "fnExactFitsIn", fn := fun _ => fun
  | [d1, d2] => { results := [.lit (.bool true)], args := [d1, d2] }
  | _ => none }
def fnExactFitsInRow : OpenClaim := { program := "ytehlkajccnmddaa", sum := "102aa58084dbaa85c251d23fefeeac32bd4576de4457d2e837d53d07f79ee885", func := "loop.example/g00484/laws.FnExactFitsIn", spec := "fnExactFitsIn", unfollowed := true, recurses := true, loops := true, apart := false }
def FnExactFitsInSaid : Prop := fnExactFitsInRow.holds Try.pinned (OpenSpec.ofChange fnExactFitsInSpec)

/-- ITS FALSE NEIGHBOUR: 'it returns false'. Refute it at one input. -/
def fnExactFitsInWrong : ChangeSpec := { name := "fnExactFitsIn", fn := fun _ => fun
  | [d1, d2] => { results := [.lit (.bool false)], args := [d1, d2] }
  | _ => none }
def FnExactFitsInWrongFalsely : Prop := fnExactFitsInRow.holds Try.pinned (OpenSpec.ofChange fnExactFitsInWrong)

/-- 'laws.FnExactSameNode': WHATEVER THE INPUT: true; the input reads as it did. -/
def fnExactSameNodeSpec : ChangeSpec := { name := "fnExactSameNode", fn := fun _ => fun
  | [d1, d2] => { results := [.lit (.bool true)], args := [d1, d2] }
  | _ => none }
def fnExactSameNodeRow : OpenClaim := { program := "ytehlkajccnmddaa", sum := "102aa58084dbaa85c251d23fefeeac32bd4576de4457d2e837d53d07f79ee885", func := "loop.example/g00484/laws.FnExactSameNode", spec := "fnExactSameNode", unfollowed := true, recurses := true, loops := true, apart := false }
def FnExactSameNodeSaid : Prop := fnExactSameNodeRow.holds Try.pinned (OpenSpec.ofChange fnExactSameNodeSpec)

/-- ITS FALSE NEIGHBOUR: 'it returns false'. Refute it at one input. -/
def fnExactSameNodeWrong : ChangeSpec := { name := "fnExactSameNode", fn := fun _ => fun
  | [d1, d2] => { results := [.lit (.bool false)], args := [d1, d2] }
  | _ => none }
def FnExactSameNodeWrongFalsely : Prop := fnExactSameNodeRow.holds Try.pinned (OpenSpec.ofChange fnExactSameNodeWrong)

/-- 'laws.FnExactPlaces': WHATEVER THE INPUT: true; the input reads as it did. -/
def fnExactPlacesSpec : ChangeSpec := { name := "fnExactPlaces", fn := fun _ => fun
  | [d] => { results := [.lit (.bool true)], args := [d] }
  | _ => none }
def fnExactPlacesRow : OpenClaim := { program := "ytehlkajccnmddaa", sum := "102aa58084dbaa85c251d23fefeeac32bd4576de4457d2e837d53d07f79ee885", func := "loop.example/g00484/laws.FnExactPlaces", spec := "fnExactPlaces", recurses := true, loops := true, apart := false }
def FnExactPlacesSaid : Prop := fnExactPlacesRow.holds Try.pinned (OpenSpec.ofChange fnExactPlacesSpec)

/-- ITS FALSE NEIGHBOUR: 'it returns false'. Refute it at one input. -/
def fnExactPlacesWrong : ChangeSpec := { name := "fnExactPlaces", fn := fun _ => fun
  | [d] => { results := [.lit (.bool false)], args := [d] }
  | _ => none }
def FnExactPlacesWrongFalsely : Prop := fnExactPlacesRow.holds Try.pinned (OpenSpec.ofChange fnExactPlacesWrong)

/-- 'laws.FnExactMerge': WHATEVER THE INPUT: true; the input reads as it did. -/
def fnExactMergeSpec : ChangeSpec := { name := "fnExactMerge", fn := fun _ => fun
  | [d] => { results := [.lit (.bool true)], args := [d] }
  | _ => none }
def fnExactMergeRow : OpenClaim := { program := "ytehlkajccnmddaa", sum := "102aa58084dbaa85c251d23fefeeac32bd4576de4457d2e837d53d07f79ee885", func := "loop.example/g00484/laws.FnExactMerge", spec := "fnExactMerge", recurses := true, loops := true, apart := false }
def FnExactMergeSaid : Prop := fnExactMergeRow.holds Try.pinned (OpenSpec.ofChange fnExactMergeSpec)

/-- ITS FALSE NEIGHBOUR: 'it returns false'. Refute it at one input. -/
def fnExactMergeWrong : ChangeSpec := { name := "fnExactMerge", fn := fun _ => fun
  | [d] => { results := [.lit (.bool false)], args := [d] }
  | _ => none }
def FnExactMergeWrongFalsely : Prop := fnExactMergeRow.holds Try.pinned (OpenSpec.ofChange fnExactMergeWrong)

/-- 'laws.FnExactNodeAt': WHATEVER THE INPUT: true; the input reads as it did. -/
def fnExactNodeAtSpec : ChangeSpec := { name := "fnExactNodeAt", fn := fun _ => fun
  | [d1, d2] => { results := [.lit (.bool true)], args := [d1, d2] }
  | _ => none }
def fnExactNodeAtRow : OpenClaim := { program := "ytehlkajccnmddaa", sum := "102aa58084dbaa85c251d23fefeeac32bd4576de4457d2e837d53d07f79ee885", func := "loop.example/g00484/laws.FnExactNodeAt", spec := "fnExactNodeAt", recurses := true, loops := true, apart := false }
def FnExactNodeAtSaid : Prop := fnExactNodeAtRow.holds Try.pinned (OpenSpec.ofChange fnExactNodeAtSpec)

/-- ITS FALSE NEIGHBOUR: 'it returns false'. Refute it at one input. -/
def fnExactNodeAtWrong : ChangeSpec := { name := "fnExactNodeAt", fn := fun _ => fun
  | [d1, d2] => { results := [.lit (.bool false)], args := [d1, d2] }
  | _ => none }
def FnExactNodeAtWrongFalsely : Prop := fnExactNodeAtRow.holds Try.pinned (OpenSpec.ofChange fnExactNodeAtWrong)

/-- 'laws.FnExactInsertAt': WHATEVER THE INPUT: true; the input reads as it did. -/
def fnExactInsertAtSpec : ChangeSpec := { name := "fnExactInsertAt", fn := fun _ => fun
  | [d1, d2, d3, d4] => { results := [.lit (.bool true)], args := [d1, d2, d3, d4] }
  | _ => none }
def fnExactInsertAtRow : OpenClaim := { program := "ytehlkajccnmddaa", sum := "102aa58084dbaa85c251d23fefeeac32bd4576de4457d2e837d53d07f79ee885", func := "loop.example/g00484/laws.FnExactInsertAt", spec := "fnExactInsertAt", unfollowed := true, recurses := true, loops := true, apart := false }
def FnExactInsertAtSaid : Prop := fnExactInsertAtRow.holds Try.pinned (OpenSpec.ofChange fnExactInsertAtSpec)

/-- ITS FALSE NEIGHBOUR: 'it returns false'. Refute it at one input. -/
def fnExactInsertAtWrong : ChangeSpec := { name := "fnExactInsertAt", fn := fun _ => fun
  | [d1, d2, d3, d4] => { results := [.lit (.bool false)], args := [d1, d2, d3, d4] }
  | _ => none }
def FnExactInsertAtWrongFalsely : Prop := fnExactInsertAtRow.holds Try.pinned (OpenSpec.ofChange fnExactInsertAtWrong)

/-- 'laws.FnMerges': WHATEVER THE INPUT: true; the input reads as it did. -/
def fnMergesSpec : ChangeSpec := { name := "fnMerges", fn := fun _ => fun
  | [d] => { results := [.lit (.bool true)], args := [d] }
  | _ => none }
def fnMergesRow : OpenClaim := { program := "ytehlkajccnmddaa", sum := "102aa58084dbaa85c251d23fefeeac32bd4576de4457d2e837d53d07f79ee885", func := "loop.example/g00484/laws.FnMerges", spec := "fnMerges", unfollowed := true, recurses := true, apart := false }
def FnMergesSaid : Prop := fnMergesRow.holds Try.pinned (OpenSpec.ofChange fnMergesSpec)

/-- ITS FALSE NEIGHBOUR: 'it returns false'. Refute it at one input. -/
def fnMergesWrong : ChangeSpec := { name := "fnMerges", fn := fun _ => fun
  | [d] => { results := [.lit (.bool false)], args := [d] }
  | _ => none }
def FnMergesWrongFalsely : Prop := fnMergesRow.holds Try.pinned (OpenSpec.ofChange fnMergesWrong)

/- THE SECOND FORM. 'bulk': how many values and letters a reading holds, each counted each time it is reached (what is shared counts as often as it is met; a slice's spare places count too). A statement '..UptoSaid' is the law's where the arguments, and the package variables that the reading takes, are together of bulk at most 1048576: NARROWER than '..Said'. Prove '..Said' where nothing that the law and all that it calls make is longer than what came in: it says more and counts as full. Else prove '..UptoSaid'. A law counts once. -/
mutual
def uptoBulk {H : Type} : DataW H → Nat
  | .lit (.string bytes) => bytes.length + 1
  | .lit _ => 1
  | .nil => 1
  | .ptr d => uptoBulk d + 1
  | .slice elems spare => uptoBulkAll elems + uptoBulkAll spare + 1
  | .agg parts => uptoBulkAll parts + 1
  | .iface _ d => uptoBulk d + 1
  | .map entries => uptoBulkEntries entries + 1
  | .held _ => 1
def uptoBulkAll {H : Type} : List (DataW H) → Nat
  | [] => 0
  | d :: r => uptoBulk d + uptoBulkAll r
def uptoBulkEntries {H : Type} : List (Lit × DataW H) → Nat
  | [] => 0
  | x :: r => uptoBulkEntry x + uptoBulkEntries r
def uptoBulkEntry {H : Type} : Lit × DataW H → Nat
  | (.string bytes, d) => bytes.length + uptoBulk d + 1
  | (_, d) => uptoBulk d + 1
 end
def uptoSmall : (H : Type) → List (DataW H) → Bool := fun _ ds => decide (uptoBulkAll ds ≤ 1048576)
def OpenSpec.upto (s : _root_.Go.ChangeSpec) : _root_.Go.OpenSpec := { _root_.Go.OpenSpec.ofChange s with cond := some uptoSmall }

/-- 'laws.FnExactSpaceOf', WHERE WHAT IT READS IS OF BULK AT MOST 1048576: true; the input reads as it did. -/
def fnExactSpaceOfUptoRow : OpenClaim := { program := "ytehlkajccnmddaa", sum := "102aa58084dbaa85c251d23fefeeac32bd4576de4457d2e837d53d07f79ee885", func := "loop.example/g00484/laws.FnExactSpaceOf", spec := "fnExactSpaceOf", unfollowed := true, recurses := true, apart := false, narrowed := true }
def FnExactSpaceOfUptoSaid : Prop := fnExactSpaceOfUptoRow.holds Try.pinned (OpenSpec.upto fnExactSpaceOfSpec)

/-- 'laws.FnExactInner', WHERE WHAT IT READS IS OF BULK AT MOST 1048576: true; the input reads as it did. -/
def fnExactInnerUptoRow : OpenClaim := { program := "ytehlkajccnmddaa", sum := "102aa58084dbaa85c251d23fefeeac32bd4576de4457d2e837d53d07f79ee885", func := "loop.example/g00484/laws.FnExactInner", spec := "fnExactInner", apart := false, narrowed := true }
def FnExactInnerUptoSaid : Prop := fnExactInnerUptoRow.holds Try.pinned (OpenSpec.upto fnExactInnerSpec)

/-- 'laws.FnExactPreFor', WHERE WHAT IT READS IS OF BULK AT MOST 1048576: true; the input reads as it did. -/
def fnExactPreForUptoRow : OpenClaim := { program := "ytehlkajccnmddaa", sum := "102aa58084dbaa85c251d23fefeeac32bd4576de4457d2e837d53d07f79ee885", func := "loop.example/g00484/laws.FnExactPreFor", spec := "fnExactPreFor", unfollowed := true, recurses := true, apart := false, narrowed := true }
def FnExactPreForUptoSaid : Prop := fnExactPreForUptoRow.holds Try.pinned (OpenSpec.upto fnExactPreForSpec)

/-- 'laws.FnExactFitsIn', WHERE WHAT IT READS IS OF BULK AT MOST 1048576: true; the input reads as it did. -/
def fnExactFitsInUptoRow : OpenClaim := { program := "ytehlkajccnmddaa", sum := "102aa58084dbaa85c251d23fefeeac32bd4576de4457d2e837d53d07f79ee885", func := "loop.example/g00484/laws.FnExactFitsIn", spec := "fnExactFitsIn", unfollowed := true, recurses := true, loops := true, apart := false, narrowed := true }
def FnExactFitsInUptoSaid : Prop := fnExactFitsInUptoRow.holds Try.pinned (OpenSpec.upto fnExactFitsInSpec)

/-- 'laws.FnExactSameNode', WHERE WHAT IT READS IS OF BULK AT MOST 1048576: true; the input reads as it did. -/
def fnExactSameNodeUptoRow : OpenClaim := { program := "ytehlkajccnmddaa", sum := "102aa58084dbaa85c251d23fefeeac32bd4576de4457d2e837d53d07f79ee885", func := "loop.example/g00484/laws.FnExactSameNode", spec := "fnExactSameNode", unfollowed := true, recurses := true, loops := true, apart := false, narrowed := true }
def FnExactSameNodeUptoSaid : Prop := fnExactSameNodeUptoRow.holds Try.pinned (OpenSpec.upto fnExactSameNodeSpec)

/-- 'laws.FnExactPlaces', WHERE WHAT IT READS IS OF BULK AT MOST 1048576: true; the input reads as it did. -/
def fnExactPlacesUptoRow : OpenClaim := { program := "ytehlkajccnmddaa", sum := "102aa58084dbaa85c251d23fefeeac32bd4576de4457d2e837d53d07f79ee885", func := "loop.example/g00484/laws.FnExactPlaces", spec := "fnExactPlaces", recurses := true, loops := true, apart := false, narrowed := true }
def FnExactPlacesUptoSaid : Prop := fnExactPlacesUptoRow.holds Try.pinned (OpenSpec.upto fnExactPlacesSpec)

/-- 'laws.FnExactMerge', WHERE WHAT IT READS IS OF BULK AT MOST 1048576: true; the input reads as it did. -/
def fnExactMergeUptoRow : OpenClaim := { program := "ytehlkajccnmddaa", sum := "102aa58084dbaa85c251d23fefeeac32bd4576de4457d2e837d53d07f79ee885", func := "loop.example/g00484/laws.FnExactMerge", spec := "fnExactMerge", recurses := true, loops := true, apart := false, narrowed := true }
def FnExactMergeUptoSaid : Prop := fnExactMergeUptoRow.holds Try.pinned (OpenSpec.upto fnExactMergeSpec)

/-- 'laws.FnExactNodeAt', WHERE WHAT IT READS IS OF BULK AT MOST 1048576: true; the input reads as it did. -/
def fnExactNodeAtUptoRow : OpenClaim := { program := "ytehlkajccnmddaa", sum := "102aa58084dbaa85c251d23fefeeac32bd4576de4457d2e837d53d07f79ee885", func := "loop.example/g00484/laws.FnExactNodeAt", spec := "fnExactNodeAt", recurses := true, loops := true, apart := false, narrowed := true }
def FnExactNodeAtUptoSaid : Prop := fnExactNodeAtUptoRow.holds Try.pinned (OpenSpec.upto fnExactNodeAtSpec)

/-- 'laws.FnExactInsertAt', WHERE WHAT IT READS IS OF BULK AT MOST 1048576: true; the input reads as it did. -/
def fnExactInsertAtUptoRow : OpenClaim := { program := "ytehlkajccnmddaa", sum := "102aa58084dbaa85c251d23fefeeac32bd4576de4457d2e837d53d07f79ee885", func := "loop.example/g00484/laws.FnExactInsertAt", spec := "fnExactInsertAt", unfollowed := true, recurses := true, loops := true, apart := false, narrowed := true }
def FnExactInsertAtUptoSaid : Prop := fnExactInsertAtUptoRow.holds Try.pinned (OpenSpec.upto fnExactInsertAtSpec)

/-- 'laws.FnMerges', WHERE WHAT IT READS IS OF BULK AT MOST 1048576: true; the input reads as it did. -/
def fnMergesUptoRow : OpenClaim := { program := "ytehlkajccnmddaa", sum := "102aa58084dbaa85c251d23fefeeac32bd4576de4457d2e837d53d07f79ee885", func := "loop.example/g00484/laws.FnMerges", spec := "fnMerges", unfollowed := true, recurses := true, apart := false, narrowed := true }
def FnMergesUptoSaid : Prop := fnMergesUptoRow.holds Try.pinned (OpenSpec.upto fnMergesSpec)

end Rows
end Go.Proofs.Ytehlkajccnmddaa
