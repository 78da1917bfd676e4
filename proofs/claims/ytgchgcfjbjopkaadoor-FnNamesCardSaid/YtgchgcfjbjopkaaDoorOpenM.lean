/- What the laws' arguments read as: each type's values, with what is known of them (their sizes, their numbers' ranges).
Conditions: none. -/
import Derived.Test.YtgchgcfjbjopkaaDoorPMx0
import Derived.Test.YtgchgcfjbjopkaaDoorOpen
import Derived.KernelRfl
namespace Go.Proofs.YtgchgcfjbjopkaaDoor.PM
open Go.RowKit Go.Proofs.YtgchgcfjbjopkaaDoorW.PrintWords Go.Proofs.YtgchgcfjbjopkaaDoorW.PrintLast Go.Proofs.YtgchgcfjbjopkaaDoor
set_option linter.unusedVariables false
set_option linter.unusedSimpArgs false

end Go.Proofs.YtgchgcfjbjopkaaDoor.PM
