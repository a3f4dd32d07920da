/- PathAlong: closed facts of its row. MADE WITH A PROGRAM. -/
import Derived.Test.YtcfjimhbachmlaaGreatDoorRows
import Derived.JoinedCond
import Derived.KernelRfl
set_option linter.unusedVariables false
set_option linter.unusedSimpArgs false

namespace Go.Proofs.YtcfjimhbachmlaaGreatDoor.E
open Go Go.Proofs

theorem jf0 : (Rows.pathAlongUptoRow.wf (OpenSpec.ofChange (Rows.OpenSpec.upto Rows.pathAlongSpec).bare)) = true := by kernel_rfl

theorem jf1 : (laidOutB Tryz.pinned.checked.prog) = true := by kernel_rfl

theorem jf2 : (mapsRowed Tryz.pinned.checked.prog) = true := by kernel_rfl

theorem jf3 : (Tryz.f8.params.all (Tryz.pinned.checked.prog.readableRec ·)) = true := by kernel_rfl

theorem jf4 : (namedTie Tryz.pinned.checked.prog Rows.pathAlongUptoRow.named (Rows.OpenSpec.upto Rows.pathAlongSpec).bare.vars) = true := by kernel_rfl

theorem jf5 : ((Rows.pathAlongUptoRow.stops == [])) = true := by kernel_rfl

theorem jf6 : ((Tryz.pinned.checked.prog.stops == [])) = true := by kernel_rfl

theorem jf7 : ((Rows.pathAlongUptoRow.knobs == [])) = true := by kernel_rfl

theorem jf8 : ((Tryz.pinned.checked.prog.stopKnobs == [])) = true := by kernel_rfl

end Go.Proofs.YtcfjimhbachmlaaGreatDoor.E
