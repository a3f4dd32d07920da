/- PathAlong: closed facts of its row. MADE WITH A PROGRAM. -/
import Derived.Test.YtcfjimhbachmlaaGreatDoorRows
import Derived.JoinedCond
import Derived.KernelRfl
set_option linter.unusedVariables false
set_option linter.unusedSimpArgs false

namespace Go.Proofs.YtcfjimhbachmlaaGreatDoor.E
open Go Go.Proofs

theorem jf11 : ((Rows.pathAlongUptoRow.recurses == Tryz.pinned.checked.prog.recurses 8)) = true := by kernel_rfl

theorem jf12 : ((Rows.pathAlongUptoRow.named == Tryz.pinned.checked.prog.varsNamed 8)) = true := by kernel_rfl

end Go.Proofs.YtcfjimhbachmlaaGreatDoor.E
