/- PathAlong: closed facts of its row. MADE WITH A PROGRAM. -/
import Derived.Test.YtcfjimhbachmlaaGreatDoorRows
import Derived.JoinedCond
import Derived.KernelRfl
set_option linter.unusedVariables false
set_option linter.unusedSimpArgs false

namespace Go.Proofs.YtcfjimhbachmlaaGreatDoor.E
open Go Go.Proofs

theorem jf13 : ((Rows.pathAlongUptoRow.maps == (Tryz.f8.params.toList ++ (Rows.OpenSpec.upto Rows.pathAlongSpec).bare.plain.varTypes Tryz.pinned.checked.prog).any (Tryz.pinned.checked.prog.mapsRec ·))) = true := by kernel_rfl

theorem jf14 : ((Rows.pathAlongUptoRow.ifaces == (Tryz.f8.params.toList ++ (Rows.OpenSpec.upto Rows.pathAlongSpec).bare.plain.varTypes Tryz.pinned.checked.prog).any (Tryz.pinned.checked.prog.ifacesRec ·))) = true := by kernel_rfl

theorem jf15 : ((Rows.pathAlongUptoRow.mapsOut == Tryz.pinned.checked.prog.mapsAmong Tryz.f8.resultTypes.toList)) = true := by kernel_rfl

theorem jf16 : ((Rows.pathAlongUptoRow.loops == (Tryz.f8.params.toList ++ (Rows.OpenSpec.upto Rows.pathAlongSpec).bare.plain.varTypes Tryz.pinned.checked.prog).any (Tryz.pinned.checked.prog.loopsFrom ·))) = true := by kernel_rfl

theorem jf17 : ((Rows.pathAlongUptoRow.wideKeys == (Tryz.f8.params.toList ++ (Rows.OpenSpec.upto Rows.pathAlongSpec).bare.plain.varTypes Tryz.pinned.checked.prog ++ Tryz.f8.resultTypes.toList).any (Tryz.pinned.checked.prog.wideKeysFrom ·))) = true := by kernel_rfl

theorem jf18 : ((Rows.OpenSpec.upto Rows.pathAlongSpec).bare.vars.all (Tryz.pinned.checked.prog.varReadable ·)) = true := by kernel_rfl

theorem jf19 : (Tryz.f8.resultTypes.all (fun t => Tryz.pinned.checked.prog.readableRec t && decide (t < Tryz.pinned.checked.prog.types.size))) = true := by kernel_rfl

theorem jf20 : ((Rows.pathAlongUptoRow.ifacesOut == Tryz.f8.resultTypes.toList.any (Tryz.pinned.checked.prog.ifacesRec ·))) = true := by kernel_rfl

theorem jf21 : ((Rows.pathAlongUptoRow.loopsOut == Tryz.f8.resultTypes.toList.any (Tryz.pinned.checked.prog.loopsFrom ·))) = true := by kernel_rfl

theorem jf22 : ((Rows.pathAlongUptoRow.plainKeys == Tryz.pinned.checked.prog.plainKeys)) = true := by kernel_rfl

theorem jf23 : (Rows.pathAlongUptoRow.shortTexts.isNone) = true := by kernel_rfl

theorem jf24 : (Tryz.pinned.checked.prog.stopsHeard) = true := by kernel_rfl

theorem jf25 : (Tryz.pinned.checked.prog.mayEnter) = true := by kernel_rfl

theorem jf26 : ((Rows.pathAlongUptoRow.lifted == Tryz.pinned.checked.prog.liftsFinal)) = true := by kernel_rfl

theorem jf27 : ((Tryz.pinned.checked.prog.make == some Rows.pathAlongUptoRow.make)) = true := by kernel_rfl

theorem jf28 : ((Rows.pathAlongUptoRow.kinds == (if Rows.pathAlongUptoRow.domain.isEmpty then [] else Tryz.f8.params.toList.map fun t => match Tryz.pinned.checked.prog.underlying t with | some (.int k) => some k | _ => none))) = true := by kernel_rfl

theorem jf29 : ((Rows.pathAlongUptoRow.pinned == Rows.pathAlongUptoRow.pinnedBy)) = true := by kernel_rfl

theorem jf30 : ((Rows.pathAlongUptoRow.veiled == (Tryz.f8.params.toList ++ (Rows.OpenSpec.upto Rows.pathAlongSpec).bare.plain.varTypes Tryz.pinned.checked.prog ++ Tryz.f8.resultTypes.toList).any (Tryz.pinned.checked.prog.veiledRec ·))) = true := by kernel_rfl

theorem jf31 : (Rows.pathAlongUptoRow.veiledFits Tryz.pinned.checked.prog Tryz.f8.params.toList (Tryz.f8.params.toList ++ (Rows.OpenSpec.upto Rows.pathAlongSpec).bare.plain.varTypes Tryz.pinned.checked.prog ++ Tryz.f8.resultTypes.toList)) = true := by kernel_rfl

end Go.Proofs.YtcfjimhbachmlaaGreatDoor.E
