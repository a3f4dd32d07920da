/-
  DERIVED. GIVEN WITH THE SEED: THE CARDS: each row of YtcfjimhbachmlaaGreatDoorRows.lean that lists a variable, with what it lists TIED to the program's text (the seventh form; the later family's looks); each row that meets fmt, with fmt's text TOLD by the authors' own Lean function (tested against real Go, not proved from fmt's source: count such statements apart). THE CARD IS WHAT COUNTS. Prove the row's statement (the work); the ties are given (YtcfjimhbachmlaaGreatDoorTie.lean); close each card by the builder's one call (the guide's Derived/Test/ToyasCard.lean, 'card_holds'). Laid BY PROGRAM, IN A SANDBOX (cutbox-door.mjs). By AI agents, Wed Nov 11 2026. No macro, syntax, notation, axiom, sorry.
-/
import Derived.Test.YtcfjimhbachmlaaGreatDoorRows
import GoSem.ClaimSeven
namespace Go.Proofs.YtcfjimhbachmlaaGreatDoor
namespace Rows

/-- THE TIED CARD OF 'virgationlaw21.PathShow'. -/
def pathShowCard : Claim7 := { stood := { row := pathShowRow, standIns := [], harness := (true, "374a86a9b57eca07de9287eb619e90ecf961f7aba6afffb753fb6166431bf17e"), looks := false }, kinds := [], alts := [], laidByText := true, laidKinds := [.data, .data, .data], laidTests := true, laidLooks := .later }
def PathShowCardSaid : Prop := Claim7.holds Tryz.pinned (.plain (OpenSpec.ofChange pathShowSpec)) pathShowCard

/-- THE TIED CARD OF 'virgationlaw21.PathRefuted'. -/
def pathRefutedCard : Claim7 := { stood := { row := pathRefutedRow, standIns := [], harness := (true, "374a86a9b57eca07de9287eb619e90ecf961f7aba6afffb753fb6166431bf17e"), looks := false }, kinds := [], alts := [], laidByText := true, laidKinds := [.data, .data, .data], laidTests := true, laidLooks := .later }
def PathRefutedCardSaid : Prop := Claim7.holds Tryz.pinned (.plain (OpenSpec.ofChange pathRefutedSpec)) pathRefutedCard

/-- THE TIED CARD OF 'virgationlaw21.PathMore'. -/
def pathMoreCard : Claim7 := { stood := { row := pathMoreRow, standIns := [], harness := (true, "374a86a9b57eca07de9287eb619e90ecf961f7aba6afffb753fb6166431bf17e"), looks := false }, kinds := [], alts := [], laidByText := true, laidKinds := [.data, .data, .data], laidTests := true, laidLooks := .later }
def PathMoreCardSaid : Prop := Claim7.holds Tryz.pinned (.plain (OpenSpec.ofChange pathMoreSpec)) pathMoreCard

/-- THE TIED CARD OF 'virgationlaw21.PathPaths'. -/
def pathPathsCard : Claim7 := { stood := { row := pathPathsRow, standIns := [], harness := (true, "374a86a9b57eca07de9287eb619e90ecf961f7aba6afffb753fb6166431bf17e"), looks := false }, kinds := [], alts := [], laidByText := true, laidKinds := [.data, .data, .data], laidTests := true, laidLooks := .later }
def PathPathsCardSaid : Prop := Claim7.holds Tryz.pinned (.plain (OpenSpec.ofChange pathPathsSpec)) pathPathsCard

/-- THE TIED CARD OF 'virgationlaw21.PathParts'. -/
def pathPartsCard : Claim7 := { stood := { row := pathPartsRow, standIns := [], harness := (true, "374a86a9b57eca07de9287eb619e90ecf961f7aba6afffb753fb6166431bf17e"), looks := false }, kinds := [], alts := [], laidByText := true, laidKinds := [.data, .data, .data], laidTests := true, laidLooks := .later }
def PathPartsCardSaid : Prop := Claim7.holds Tryz.pinned (.plain (OpenSpec.ofChange pathPartsSpec)) pathPartsCard

/-- THE TIED CARD OF 'virgationlaw21.PathAlong'. -/
def pathAlongCard : Claim7 := { stood := { row := pathAlongRow, standIns := [], harness := (true, "374a86a9b57eca07de9287eb619e90ecf961f7aba6afffb753fb6166431bf17e"), looks := false }, kinds := [], alts := [], laidByText := true, laidKinds := [.data, .data, .data], laidTests := true, laidLooks := .later }
def PathAlongCardSaid : Prop := Claim7.holds Tryz.pinned (.plain (OpenSpec.ofChange pathAlongSpec)) pathAlongCard

/-- THE TIED CARD OF 'virgationlaw21.PathEmpty'. -/
def pathEmptyCard : Claim7 := { stood := { row := pathEmptyRow, standIns := [], harness := (true, "374a86a9b57eca07de9287eb619e90ecf961f7aba6afffb753fb6166431bf17e"), looks := false }, kinds := [], alts := [], laidByText := true, laidKinds := [.data, .data, .data], laidTests := true, laidLooks := .later }
def PathEmptyCardSaid : Prop := Claim7.holds Tryz.pinned (.plain (OpenSpec.ofChange pathEmptySpec)) pathEmptyCard

/-- THE TIED CARD OF 'virgationlaw21.PathOwn'. -/
def pathOwnCard : Claim7 := { stood := { row := pathOwnRow, standIns := [], harness := (true, "374a86a9b57eca07de9287eb619e90ecf961f7aba6afffb753fb6166431bf17e"), looks := false }, kinds := [], alts := [], laidByText := true, laidKinds := [.data, .data, .data], laidTests := true, laidLooks := .later }
def PathOwnCardSaid : Prop := Claim7.holds Tryz.pinned (.plain (OpenSpec.ofChange pathOwnSpec)) pathOwnCard

/-- THE SECOND FORM's CARD OF 'virgationlaw21.PathShow'. -/
def pathShowUptoCard : Claim7 := { stood := { row := pathShowUptoRow, standIns := [], harness := (true, "374a86a9b57eca07de9287eb619e90ecf961f7aba6afffb753fb6166431bf17e"), looks := false }, kinds := [], alts := [], laidByText := true, laidKinds := [.data, .data, .data], laidTests := true, laidLooks := .later }
def PathShowUptoCardSaid : Prop := Claim7.holds Tryz.pinned (.plain (OpenSpec.upto pathShowSpec)) pathShowUptoCard

/-- THE SECOND FORM's CARD OF 'virgationlaw21.PathRefuted'. -/
def pathRefutedUptoCard : Claim7 := { stood := { row := pathRefutedUptoRow, standIns := [], harness := (true, "374a86a9b57eca07de9287eb619e90ecf961f7aba6afffb753fb6166431bf17e"), looks := false }, kinds := [], alts := [], laidByText := true, laidKinds := [.data, .data, .data], laidTests := true, laidLooks := .later }
def PathRefutedUptoCardSaid : Prop := Claim7.holds Tryz.pinned (.plain (OpenSpec.upto pathRefutedSpec)) pathRefutedUptoCard

/-- THE SECOND FORM's CARD OF 'virgationlaw21.PathMore'. -/
def pathMoreUptoCard : Claim7 := { stood := { row := pathMoreUptoRow, standIns := [], harness := (true, "374a86a9b57eca07de9287eb619e90ecf961f7aba6afffb753fb6166431bf17e"), looks := false }, kinds := [], alts := [], laidByText := true, laidKinds := [.data, .data, .data], laidTests := true, laidLooks := .later }
def PathMoreUptoCardSaid : Prop := Claim7.holds Tryz.pinned (.plain (OpenSpec.upto pathMoreSpec)) pathMoreUptoCard

/-- THE SECOND FORM's CARD OF 'virgationlaw21.PathPaths'. -/
def pathPathsUptoCard : Claim7 := { stood := { row := pathPathsUptoRow, standIns := [], harness := (true, "374a86a9b57eca07de9287eb619e90ecf961f7aba6afffb753fb6166431bf17e"), looks := false }, kinds := [], alts := [], laidByText := true, laidKinds := [.data, .data, .data], laidTests := true, laidLooks := .later }
def PathPathsUptoCardSaid : Prop := Claim7.holds Tryz.pinned (.plain (OpenSpec.upto pathPathsSpec)) pathPathsUptoCard

/-- THE SECOND FORM's CARD OF 'virgationlaw21.PathParts'. -/
def pathPartsUptoCard : Claim7 := { stood := { row := pathPartsUptoRow, standIns := [], harness := (true, "374a86a9b57eca07de9287eb619e90ecf961f7aba6afffb753fb6166431bf17e"), looks := false }, kinds := [], alts := [], laidByText := true, laidKinds := [.data, .data, .data], laidTests := true, laidLooks := .later }
def PathPartsUptoCardSaid : Prop := Claim7.holds Tryz.pinned (.plain (OpenSpec.upto pathPartsSpec)) pathPartsUptoCard

/-- THE SECOND FORM's CARD OF 'virgationlaw21.PathAlong'. -/
def pathAlongUptoCard : Claim7 := { stood := { row := pathAlongUptoRow, standIns := [], harness := (true, "374a86a9b57eca07de9287eb619e90ecf961f7aba6afffb753fb6166431bf17e"), looks := false }, kinds := [], alts := [], laidByText := true, laidKinds := [.data, .data, .data], laidTests := true, laidLooks := .later }
def PathAlongUptoCardSaid : Prop := Claim7.holds Tryz.pinned (.plain (OpenSpec.upto pathAlongSpec)) pathAlongUptoCard

/-- THE SECOND FORM's CARD OF 'virgationlaw21.PathEmpty'. -/
def pathEmptyUptoCard : Claim7 := { stood := { row := pathEmptyUptoRow, standIns := [], harness := (true, "374a86a9b57eca07de9287eb619e90ecf961f7aba6afffb753fb6166431bf17e"), looks := false }, kinds := [], alts := [], laidByText := true, laidKinds := [.data, .data, .data], laidTests := true, laidLooks := .later }
def PathEmptyUptoCardSaid : Prop := Claim7.holds Tryz.pinned (.plain (OpenSpec.upto pathEmptySpec)) pathEmptyUptoCard

/-- THE SECOND FORM's CARD OF 'virgationlaw21.PathOwn'. -/
def pathOwnUptoCard : Claim7 := { stood := { row := pathOwnUptoRow, standIns := [], harness := (true, "374a86a9b57eca07de9287eb619e90ecf961f7aba6afffb753fb6166431bf17e"), looks := false }, kinds := [], alts := [], laidByText := true, laidKinds := [.data, .data, .data], laidTests := true, laidLooks := .later }
def PathOwnUptoCardSaid : Prop := Claim7.holds Tryz.pinned (.plain (OpenSpec.upto pathOwnSpec)) pathOwnUptoCard
end Rows
end Go.Proofs.YtcfjimhbachmlaaGreatDoor
