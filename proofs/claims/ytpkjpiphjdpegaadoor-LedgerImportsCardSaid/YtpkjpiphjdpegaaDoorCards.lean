/-
  DERIVED. GIVEN WITH THE SEED: THE CARDS: each row of YtpkjpiphjdpegaaDoorRows.lean that lists a variable, with what it lists TIED to the program's text (the seventh form; the later family's looks); each row that meets fmt, with fmt's text TOLD by the authors' own Lean function (tested against real Go, not proved from fmt's source: count such statements apart). THE CARD IS WHAT COUNTS. Prove the row's statement (the work); the ties are given (YtpkjpiphjdpegaaDoorTie.lean); close each card by the builder's one call (the guide's Derived/Test/ToyasCard.lean, 'card_holds'). Laid BY PROGRAM, IN A SANDBOX (cutbox-door.mjs). By AI agents, Wed Nov 11 2026. No macro, syntax, notation, axiom, sorry.
-/
import Derived.Test.YtpkjpiphjdpegaaDoorRows
import GoSem.ClaimSeven
namespace Go.Proofs.YtpkjpiphjdpegaaDoor
namespace Rows

/-- THE TIED CARD OF 'paymasterlaw09.LinesRunes'. -/
def linesRunesCard : Claim7 := { stood := { row := linesRunesRow, standIns := [], harness := (true, "8ed4f517d9b640979c9642b29f1471ad540af19eb7dd2a85df80f51153cdfa49"), looks := false }, kinds := [], alts := [], laidByText := true, laidKinds := [.data, .pinned], laidTests := true, laidLooks := .later }
def LinesRunesCardSaid : Prop := Claim7.holds Tryd.pinned (.plain (OpenSpec.ofChange linesRunesSpec)) linesRunesCard

/-- THE TIED CARD OF 'paymasterlaw10.RowSorted'. -/
def rowSortedCard : Claim7 := { stood := { row := rowSortedRow, standIns := [], harness := (true, "8ed4f517d9b640979c9642b29f1471ad540af19eb7dd2a85df80f51153cdfa49"), looks := false }, kinds := [], alts := [], laidByText := true, laidKinds := [.data, .pinned], laidTests := true, laidLooks := .later }
def RowSortedCardSaid : Prop := Claim7.holds Tryd.pinned (.plain (OpenSpec.ofChange rowSortedSpec)) rowSortedCard

/-- THE TIED CARD OF 'paymasterlaw11.LedgerBack'. -/
def ledgerBackCard : Claim7 := { stood := { row := ledgerBackRow, standIns := [], harness := (true, "8ed4f517d9b640979c9642b29f1471ad540af19eb7dd2a85df80f51153cdfa49"), looks := false }, kinds := [], alts := [], laidByText := true, laidKinds := [.data, .pinned], laidTests := true, laidLooks := .later }
def LedgerBackCardSaid : Prop := Claim7.holds Tryd.pinned (.plain (OpenSpec.ofChange ledgerBackSpec)) ledgerBackCard

/-- THE TIED CARD OF 'paymasterlaw09.LinesTells'. -/
def linesTellsCard : Claim7 := { stood := { row := linesTellsRow, standIns := [], harness := (true, "8ed4f517d9b640979c9642b29f1471ad540af19eb7dd2a85df80f51153cdfa49"), looks := false }, kinds := [], alts := [], laidByText := true, laidKinds := [.data, .pinned], laidTests := true, laidLooks := .later }
def LinesTellsCardSaid : Prop := Claim7.holds Tryd.pinned (.plain (OpenSpec.ofChange linesTellsSpec)) linesTellsCard

/-- THE TIED CARD OF 'paymasterlaw09.LinesAlone'. -/
def linesAloneCard : Claim7 := { stood := { row := linesAloneRow, standIns := [], harness := (true, "8ed4f517d9b640979c9642b29f1471ad540af19eb7dd2a85df80f51153cdfa49"), looks := false }, kinds := [], alts := [], laidByText := true, laidKinds := [.data, .pinned], laidTests := true, laidLooks := .later }
def LinesAloneCardSaid : Prop := Claim7.holds Tryd.pinned (.plain (OpenSpec.ofChange linesAloneSpec)) linesAloneCard

/-- THE TIED CARD OF 'paymasterlaw09.LinesUtf'. -/
def linesUtfCard : Claim7 := { stood := { row := linesUtfRow, standIns := [], harness := (true, "8ed4f517d9b640979c9642b29f1471ad540af19eb7dd2a85df80f51153cdfa49"), looks := false }, kinds := [], alts := [], laidByText := true, laidKinds := [.data, .pinned], laidTests := true, laidLooks := .later }
def LinesUtfCardSaid : Prop := Claim7.holds Tryd.pinned (.plain (OpenSpec.ofChange linesUtfSpec)) linesUtfCard

/-- THE TIED CARD OF 'paymasterlaw09.LinesBack'. -/
def linesBackCard : Claim7 := { stood := { row := linesBackRow, standIns := [], harness := (true, "8ed4f517d9b640979c9642b29f1471ad540af19eb7dd2a85df80f51153cdfa49"), looks := false }, kinds := [], alts := [], laidByText := true, laidKinds := [.data, .pinned], laidTests := true, laidLooks := .later }
def LinesBackCardSaid : Prop := Claim7.holds Tryd.pinned (.plain (OpenSpec.ofChange linesBackSpec)) linesBackCard

/-- THE TIED CARD OF 'paymasterlaw10.RowAll'. -/
def rowAllCard : Claim7 := { stood := { row := rowAllRow, standIns := [], harness := (true, "8ed4f517d9b640979c9642b29f1471ad540af19eb7dd2a85df80f51153cdfa49"), looks := false }, kinds := [], alts := [], laidByText := true, laidKinds := [.data, .pinned], laidTests := true, laidLooks := .later }
def RowAllCardSaid : Prop := Claim7.holds Tryd.pinned (.plain (OpenSpec.ofChange rowAllSpec)) rowAllCard

/-- THE TIED CARD OF 'paymasterlaw10.RowParses'. -/
def rowParsesCard : Claim7 := { stood := { row := rowParsesRow, standIns := [], harness := (true, "8ed4f517d9b640979c9642b29f1471ad540af19eb7dd2a85df80f51153cdfa49"), looks := false }, kinds := [], alts := [], laidByText := true, laidKinds := [.data, .pinned], laidTests := true, laidLooks := .later }
def RowParsesCardSaid : Prop := Claim7.holds Tryd.pinned (.plain (OpenSpec.ofChange rowParsesSpec)) rowParsesCard

/-- THE TIED CARD OF 'paymasterlaw11.LedgerImports'. -/
def ledgerImportsCard : Claim7 := { stood := { row := ledgerImportsRow, standIns := [], harness := (true, "8ed4f517d9b640979c9642b29f1471ad540af19eb7dd2a85df80f51153cdfa49"), looks := false }, kinds := [], alts := [], laidByText := true, laidKinds := [.data, .pinned], laidTests := true, laidLooks := .later }
def LedgerImportsCardSaid : Prop := Claim7.holds Tryd.pinned (.plain (OpenSpec.ofChange ledgerImportsSpec)) ledgerImportsCard

/-- THE TIED CARD OF 'paymasterlaw10.RowBack'. -/
def rowBackCard : Claim7 := { stood := { row := rowBackRow, standIns := [], harness := (true, "8ed4f517d9b640979c9642b29f1471ad540af19eb7dd2a85df80f51153cdfa49"), looks := false }, kinds := [], alts := [], laidByText := true, laidKinds := [.data, .pinned], laidTests := true, laidLooks := .later }
def RowBackCardSaid : Prop := Claim7.holds Tryd.pinned (.plain (OpenSpec.ofChange rowBackSpec)) rowBackCard

/-- THE TIED CARD OF 'paymasterlaw10.RowWritten'. -/
def rowWrittenCard : Claim7 := { stood := { row := rowWrittenRow, standIns := [], harness := (true, "8ed4f517d9b640979c9642b29f1471ad540af19eb7dd2a85df80f51153cdfa49"), looks := false }, kinds := [], alts := [], laidByText := true, laidKinds := [.data, .pinned], laidTests := true, laidLooks := .later }
def RowWrittenCardSaid : Prop := Claim7.holds Tryd.pinned (.plain (OpenSpec.ofChange rowWrittenSpec)) rowWrittenCard

/-- THE TIED CARD OF 'paymasterlaw10.RowFirst'. -/
def rowFirstCard : Claim7 := { stood := { row := rowFirstRow, standIns := [], harness := (true, "8ed4f517d9b640979c9642b29f1471ad540af19eb7dd2a85df80f51153cdfa49"), looks := false }, kinds := [], alts := [], laidByText := true, laidKinds := [.data, .pinned], laidTests := true, laidLooks := .later }
def RowFirstCardSaid : Prop := Claim7.holds Tryd.pinned (.plain (OpenSpec.ofChange rowFirstSpec)) rowFirstCard

/-- THE TIED CARD OF 'paymasterlaw11.LedgerBetween'. -/
def ledgerBetweenCard : Claim7 := { stood := { row := ledgerBetweenRow, standIns := [], harness := (true, "8ed4f517d9b640979c9642b29f1471ad540af19eb7dd2a85df80f51153cdfa49"), looks := false }, kinds := [], alts := [], laidByText := true, laidKinds := [.data, .pinned], laidTests := true, laidLooks := .later }
def LedgerBetweenCardSaid : Prop := Claim7.holds Tryd.pinned (.plain (OpenSpec.ofChange ledgerBetweenSpec)) ledgerBetweenCard

/-- THE TIED CARD OF 'paymasterlaw11.LedgerFirst'. -/
def ledgerFirstCard : Claim7 := { stood := { row := ledgerFirstRow, standIns := [], harness := (true, "8ed4f517d9b640979c9642b29f1471ad540af19eb7dd2a85df80f51153cdfa49"), looks := false }, kinds := [], alts := [], laidByText := true, laidKinds := [.data, .pinned], laidTests := true, laidLooks := .later }
def LedgerFirstCardSaid : Prop := Claim7.holds Tryd.pinned (.plain (OpenSpec.ofChange ledgerFirstSpec)) ledgerFirstCard

/-- THE TIED CARD OF 'paymasterlaw10.RowWrites'. -/
def rowWritesCard : Claim7 := { stood := { row := rowWritesRow, standIns := [], harness := (true, "8ed4f517d9b640979c9642b29f1471ad540af19eb7dd2a85df80f51153cdfa49"), looks := false }, kinds := [], alts := [], laidByText := true, laidKinds := [.data, .pinned], laidTests := true, laidLooks := .later }
def RowWritesCardSaid : Prop := Claim7.holds Tryd.pinned (.plain (OpenSpec.ofChange rowWritesSpec)) rowWritesCard

/-- THE TIED CARD OF 'paymasterlaw11.LedgerTurned'. -/
def ledgerTurnedCard : Claim7 := { stood := { row := ledgerTurnedRow, standIns := [], harness := (true, "8ed4f517d9b640979c9642b29f1471ad540af19eb7dd2a85df80f51153cdfa49"), looks := false }, kinds := [], alts := [], laidByText := true, laidKinds := [.data, .pinned], laidTests := true, laidLooks := .later }
def LedgerTurnedCardSaid : Prop := Claim7.holds Tryd.pinned (.plain (OpenSpec.ofChange ledgerTurnedSpec)) ledgerTurnedCard

/-- THE SECOND FORM's CARD OF 'paymasterlaw09.LinesRunes'. -/
def linesRunesUptoCard : Claim7 := { stood := { row := linesRunesUptoRow, standIns := [], harness := (true, "8ed4f517d9b640979c9642b29f1471ad540af19eb7dd2a85df80f51153cdfa49"), looks := false }, kinds := [], alts := [], laidByText := true, laidKinds := [.data, .pinned], laidTests := true, laidLooks := .later }
def LinesRunesUptoCardSaid : Prop := Claim7.holds Tryd.pinned (.plain (OpenSpec.upto linesRunesSpec)) linesRunesUptoCard

/-- THE SECOND FORM's CARD OF 'paymasterlaw10.RowSorted'. -/
def rowSortedUptoCard : Claim7 := { stood := { row := rowSortedUptoRow, standIns := [], harness := (true, "8ed4f517d9b640979c9642b29f1471ad540af19eb7dd2a85df80f51153cdfa49"), looks := false }, kinds := [], alts := [], laidByText := true, laidKinds := [.data, .pinned], laidTests := true, laidLooks := .later }
def RowSortedUptoCardSaid : Prop := Claim7.holds Tryd.pinned (.plain (OpenSpec.upto rowSortedSpec)) rowSortedUptoCard

/-- THE SECOND FORM's CARD OF 'paymasterlaw11.LedgerBack'. -/
def ledgerBackUptoCard : Claim7 := { stood := { row := ledgerBackUptoRow, standIns := [], harness := (true, "8ed4f517d9b640979c9642b29f1471ad540af19eb7dd2a85df80f51153cdfa49"), looks := false }, kinds := [], alts := [], laidByText := true, laidKinds := [.data, .pinned], laidTests := true, laidLooks := .later }
def LedgerBackUptoCardSaid : Prop := Claim7.holds Tryd.pinned (.plain (OpenSpec.upto ledgerBackSpec)) ledgerBackUptoCard

/-- THE SECOND FORM's CARD OF 'paymasterlaw09.LinesTells'. -/
def linesTellsUptoCard : Claim7 := { stood := { row := linesTellsUptoRow, standIns := [], harness := (true, "8ed4f517d9b640979c9642b29f1471ad540af19eb7dd2a85df80f51153cdfa49"), looks := false }, kinds := [], alts := [], laidByText := true, laidKinds := [.data, .pinned], laidTests := true, laidLooks := .later }
def LinesTellsUptoCardSaid : Prop := Claim7.holds Tryd.pinned (.plain (OpenSpec.upto linesTellsSpec)) linesTellsUptoCard

/-- THE SECOND FORM's CARD OF 'paymasterlaw09.LinesAlone'. -/
def linesAloneUptoCard : Claim7 := { stood := { row := linesAloneUptoRow, standIns := [], harness := (true, "8ed4f517d9b640979c9642b29f1471ad540af19eb7dd2a85df80f51153cdfa49"), looks := false }, kinds := [], alts := [], laidByText := true, laidKinds := [.data, .pinned], laidTests := true, laidLooks := .later }
def LinesAloneUptoCardSaid : Prop := Claim7.holds Tryd.pinned (.plain (OpenSpec.upto linesAloneSpec)) linesAloneUptoCard

/-- THE SECOND FORM's CARD OF 'paymasterlaw09.LinesUtf'. -/
def linesUtfUptoCard : Claim7 := { stood := { row := linesUtfUptoRow, standIns := [], harness := (true, "8ed4f517d9b640979c9642b29f1471ad540af19eb7dd2a85df80f51153cdfa49"), looks := false }, kinds := [], alts := [], laidByText := true, laidKinds := [.data, .pinned], laidTests := true, laidLooks := .later }
def LinesUtfUptoCardSaid : Prop := Claim7.holds Tryd.pinned (.plain (OpenSpec.upto linesUtfSpec)) linesUtfUptoCard

/-- THE SECOND FORM's CARD OF 'paymasterlaw09.LinesBack'. -/
def linesBackUptoCard : Claim7 := { stood := { row := linesBackUptoRow, standIns := [], harness := (true, "8ed4f517d9b640979c9642b29f1471ad540af19eb7dd2a85df80f51153cdfa49"), looks := false }, kinds := [], alts := [], laidByText := true, laidKinds := [.data, .pinned], laidTests := true, laidLooks := .later }
def LinesBackUptoCardSaid : Prop := Claim7.holds Tryd.pinned (.plain (OpenSpec.upto linesBackSpec)) linesBackUptoCard

/-- THE SECOND FORM's CARD OF 'paymasterlaw10.RowAll'. -/
def rowAllUptoCard : Claim7 := { stood := { row := rowAllUptoRow, standIns := [], harness := (true, "8ed4f517d9b640979c9642b29f1471ad540af19eb7dd2a85df80f51153cdfa49"), looks := false }, kinds := [], alts := [], laidByText := true, laidKinds := [.data, .pinned], laidTests := true, laidLooks := .later }
def RowAllUptoCardSaid : Prop := Claim7.holds Tryd.pinned (.plain (OpenSpec.upto rowAllSpec)) rowAllUptoCard

/-- THE SECOND FORM's CARD OF 'paymasterlaw10.RowParses'. -/
def rowParsesUptoCard : Claim7 := { stood := { row := rowParsesUptoRow, standIns := [], harness := (true, "8ed4f517d9b640979c9642b29f1471ad540af19eb7dd2a85df80f51153cdfa49"), looks := false }, kinds := [], alts := [], laidByText := true, laidKinds := [.data, .pinned], laidTests := true, laidLooks := .later }
def RowParsesUptoCardSaid : Prop := Claim7.holds Tryd.pinned (.plain (OpenSpec.upto rowParsesSpec)) rowParsesUptoCard

/-- THE SECOND FORM's CARD OF 'paymasterlaw11.LedgerImports'. -/
def ledgerImportsUptoCard : Claim7 := { stood := { row := ledgerImportsUptoRow, standIns := [], harness := (true, "8ed4f517d9b640979c9642b29f1471ad540af19eb7dd2a85df80f51153cdfa49"), looks := false }, kinds := [], alts := [], laidByText := true, laidKinds := [.data, .pinned], laidTests := true, laidLooks := .later }
def LedgerImportsUptoCardSaid : Prop := Claim7.holds Tryd.pinned (.plain (OpenSpec.upto ledgerImportsSpec)) ledgerImportsUptoCard

/-- THE SECOND FORM's CARD OF 'paymasterlaw10.RowBack'. -/
def rowBackUptoCard : Claim7 := { stood := { row := rowBackUptoRow, standIns := [], harness := (true, "8ed4f517d9b640979c9642b29f1471ad540af19eb7dd2a85df80f51153cdfa49"), looks := false }, kinds := [], alts := [], laidByText := true, laidKinds := [.data, .pinned], laidTests := true, laidLooks := .later }
def RowBackUptoCardSaid : Prop := Claim7.holds Tryd.pinned (.plain (OpenSpec.upto rowBackSpec)) rowBackUptoCard

/-- THE SECOND FORM's CARD OF 'paymasterlaw10.RowWritten'. -/
def rowWrittenUptoCard : Claim7 := { stood := { row := rowWrittenUptoRow, standIns := [], harness := (true, "8ed4f517d9b640979c9642b29f1471ad540af19eb7dd2a85df80f51153cdfa49"), looks := false }, kinds := [], alts := [], laidByText := true, laidKinds := [.data, .pinned], laidTests := true, laidLooks := .later }
def RowWrittenUptoCardSaid : Prop := Claim7.holds Tryd.pinned (.plain (OpenSpec.upto rowWrittenSpec)) rowWrittenUptoCard

/-- THE SECOND FORM's CARD OF 'paymasterlaw10.RowFirst'. -/
def rowFirstUptoCard : Claim7 := { stood := { row := rowFirstUptoRow, standIns := [], harness := (true, "8ed4f517d9b640979c9642b29f1471ad540af19eb7dd2a85df80f51153cdfa49"), looks := false }, kinds := [], alts := [], laidByText := true, laidKinds := [.data, .pinned], laidTests := true, laidLooks := .later }
def RowFirstUptoCardSaid : Prop := Claim7.holds Tryd.pinned (.plain (OpenSpec.upto rowFirstSpec)) rowFirstUptoCard

/-- THE SECOND FORM's CARD OF 'paymasterlaw11.LedgerBetween'. -/
def ledgerBetweenUptoCard : Claim7 := { stood := { row := ledgerBetweenUptoRow, standIns := [], harness := (true, "8ed4f517d9b640979c9642b29f1471ad540af19eb7dd2a85df80f51153cdfa49"), looks := false }, kinds := [], alts := [], laidByText := true, laidKinds := [.data, .pinned], laidTests := true, laidLooks := .later }
def LedgerBetweenUptoCardSaid : Prop := Claim7.holds Tryd.pinned (.plain (OpenSpec.upto ledgerBetweenSpec)) ledgerBetweenUptoCard

/-- THE SECOND FORM's CARD OF 'paymasterlaw11.LedgerFirst'. -/
def ledgerFirstUptoCard : Claim7 := { stood := { row := ledgerFirstUptoRow, standIns := [], harness := (true, "8ed4f517d9b640979c9642b29f1471ad540af19eb7dd2a85df80f51153cdfa49"), looks := false }, kinds := [], alts := [], laidByText := true, laidKinds := [.data, .pinned], laidTests := true, laidLooks := .later }
def LedgerFirstUptoCardSaid : Prop := Claim7.holds Tryd.pinned (.plain (OpenSpec.upto ledgerFirstSpec)) ledgerFirstUptoCard

/-- THE SECOND FORM's CARD OF 'paymasterlaw10.RowWrites'. -/
def rowWritesUptoCard : Claim7 := { stood := { row := rowWritesUptoRow, standIns := [], harness := (true, "8ed4f517d9b640979c9642b29f1471ad540af19eb7dd2a85df80f51153cdfa49"), looks := false }, kinds := [], alts := [], laidByText := true, laidKinds := [.data, .pinned], laidTests := true, laidLooks := .later }
def RowWritesUptoCardSaid : Prop := Claim7.holds Tryd.pinned (.plain (OpenSpec.upto rowWritesSpec)) rowWritesUptoCard

/-- THE SECOND FORM's CARD OF 'paymasterlaw11.LedgerTurned'. -/
def ledgerTurnedUptoCard : Claim7 := { stood := { row := ledgerTurnedUptoRow, standIns := [], harness := (true, "8ed4f517d9b640979c9642b29f1471ad540af19eb7dd2a85df80f51153cdfa49"), looks := false }, kinds := [], alts := [], laidByText := true, laidKinds := [.data, .pinned], laidTests := true, laidLooks := .later }
def LedgerTurnedUptoCardSaid : Prop := Claim7.holds Tryd.pinned (.plain (OpenSpec.upto ledgerTurnedSpec)) ledgerTurnedUptoCard
end Rows
end Go.Proofs.YtpkjpiphjdpegaaDoor
