/- PathAlong: closed facts of its row. MADE WITH A PROGRAM. -/
import Derived.Test.YtcfjimhbachmlaaGreatDoorRows
import Derived.JoinedCond
import Derived.KernelRfl
set_option linter.unusedVariables false
set_option linter.unusedSimpArgs false

namespace Go.Proofs.YtcfjimhbachmlaaGreatDoor.E
open Go Go.Proofs

theorem jf9 : ((Rows.pathAlongUptoRow.inPlace == Tryz.pinned.checked.prog.inPlace 8)) = true := by kernel_rfl

theorem jf10 : ((Rows.pathAlongUptoRow.unfollowed == Tryz.pinned.checked.prog.unfollowed 8)) = true := by kernel_rfl

end Go.Proofs.YtcfjimhbachmlaaGreatDoor.E
