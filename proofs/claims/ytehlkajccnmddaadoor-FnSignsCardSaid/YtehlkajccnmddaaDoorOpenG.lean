/- What the laws' arguments read as: each type's values, with what is known of them (their sizes, their numbers' ranges).
Conditions: none. -/
import Derived.Test.YtehlkajccnmddaaDoorPGx0
import Derived.Test.YtehlkajccnmddaaDoorOpen
import Derived.KernelRfl
namespace Go.Proofs.YtehlkajccnmddaaDoor.PG
open Go.RowKit Go.Proofs.YtehlkajccnmddaaDoorW.PrintWords Go.Proofs.YtehlkajccnmddaaDoorW.PrintLast Go.Proofs.YtehlkajccnmddaaDoor
set_option linter.unusedVariables false
set_option linter.unusedSimpArgs false

end Go.Proofs.YtehlkajccnmddaaDoor.PG
