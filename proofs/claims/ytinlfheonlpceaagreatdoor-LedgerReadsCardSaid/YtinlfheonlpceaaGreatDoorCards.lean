/-
  DERIVED. GIVEN WITH THE SEED: THE CARDS: each row of YtinlfheonlpceaaGreatDoorRows.lean that lists a variable, with what it lists TIED to the program's text (the seventh form; the later family's looks); each row that meets fmt, with fmt's text TOLD by the authors' own Lean function (tested against real Go, not proved from fmt's source: count such statements apart). THE CARD IS WHAT COUNTS. Prove the row's statement (the work); the ties are given (YtinlfheonlpceaaGreatDoorTie.lean); close each card by the builder's one call (the guide's Derived/Test/ToyasCard.lean, 'card_holds'). Laid BY PROGRAM, IN A SANDBOX (cutbox-door.mjs). By AI agents, Wed Nov 11 2026. No macro, syntax, notation, axiom, sorry.
-/
import Derived.Test.YtinlfheonlpceaaGreatDoorRows
import GoSem.ClaimSeven
namespace Go.Proofs.YtinlfheonlpceaaGreatDoor
namespace Rows

/-- THE TIED CARD OF 'estraylaw07.LedgerLines'. -/
def ledgerLinesCard : Claim7 := { stood := { row := ledgerLinesRow, standIns := [], harness := (true, "9c63e776fecb7080e0ed174e5fb2a3fb16be934b5be4477c259f4b4e212a588f"), looks := true }, kinds := [], alts := [], laidByText := true, laidKinds := [.data, .data, .data, .data, .sentinel, .sentinel, .pinned, .pinned], laidTests := true, laidLooks := .later }
def LedgerLinesCardSaid : Prop := Claim7.holds Tryz.pinned (.plain (OpenSpec.ofChange ledgerLinesSpec)) ledgerLinesCard

/-- THE TIED CARD OF 'estraylaw07.LedgerReads'. -/
def ledgerReadsCard : Claim7 := { stood := { row := ledgerReadsRow, standIns := [], harness := (true, "9c63e776fecb7080e0ed174e5fb2a3fb16be934b5be4477c259f4b4e212a588f"), looks := true }, kinds := [], alts := [], laidByText := true, laidKinds := [.data, .data, .data, .data, .sentinel, .sentinel, .pinned], laidTests := true, laidLooks := .later }
def LedgerReadsCardSaid : Prop := Claim7.holds Tryz.pinned (.plain (OpenSpec.ofChange ledgerReadsSpec)) ledgerReadsCard

/-- THE TIED CARD OF 'estraylaw07.LedgerBack'. -/
def ledgerBackCard : Claim7 := { stood := { row := ledgerBackRow, standIns := [], harness := (true, "9c63e776fecb7080e0ed174e5fb2a3fb16be934b5be4477c259f4b4e212a588f"), looks := true }, kinds := [], alts := [], laidByText := true, laidKinds := [.data, .data, .data, .data, .sentinel, .sentinel, .pinned], laidTests := true, laidLooks := .later }
def LedgerBackCardSaid : Prop := Claim7.holds Tryz.pinned (.plain (OpenSpec.ofChange ledgerBackSpec)) ledgerBackCard

/-- THE TIED CARD OF 'estraylaw07.LedgerParts'. -/
def ledgerPartsCard : Claim7 := { stood := { row := ledgerPartsRow, standIns := [], harness := (true, "9c63e776fecb7080e0ed174e5fb2a3fb16be934b5be4477c259f4b4e212a588f"), looks := true }, kinds := [], alts := [], laidByText := true, laidKinds := [.data, .data, .data, .data, .sentinel, .sentinel, .pinned], laidTests := true, laidLooks := .later }
def LedgerPartsCardSaid : Prop := Claim7.holds Tryz.pinned (.plain (OpenSpec.ofChange ledgerPartsSpec)) ledgerPartsCard

/-- THE TIED CARD OF 'estraylaw07.LedgerTimes'. -/
def ledgerTimesCard : Claim7 := { stood := { row := ledgerTimesRow, standIns := [], harness := (true, "9c63e776fecb7080e0ed174e5fb2a3fb16be934b5be4477c259f4b4e212a588f"), looks := true }, kinds := [], alts := [], laidByText := true, laidKinds := [.data, .data, .data, .data, .sentinel, .sentinel, .pinned], laidTests := true, laidLooks := .later }
def LedgerTimesCardSaid : Prop := Claim7.holds Tryz.pinned (.plain (OpenSpec.ofChange ledgerTimesSpec)) ledgerTimesCard

/-- THE TIED CARD OF 'estraylaw07.LedgerPlays'. -/
def ledgerPlaysCard : Claim7 := { stood := { row := ledgerPlaysRow, standIns := [], harness := (true, "9c63e776fecb7080e0ed174e5fb2a3fb16be934b5be4477c259f4b4e212a588f"), looks := true }, kinds := [], alts := [], laidByText := true, laidKinds := [.data, .data, .data, .data, .sentinel, .sentinel, .pinned], laidTests := true, laidLooks := .later }
def LedgerPlaysCardSaid : Prop := Claim7.holds Tryz.pinned (.plain (OpenSpec.ofChange ledgerPlaysSpec)) ledgerPlaysCard

/-- THE TIED CARD OF 'estraylaw07.LedgerNil'. -/
def ledgerNilCard : Claim7 := { stood := { row := ledgerNilRow, standIns := [], harness := (true, "9c63e776fecb7080e0ed174e5fb2a3fb16be934b5be4477c259f4b4e212a588f"), looks := true }, kinds := [], alts := [], laidByText := true, laidKinds := [.data, .data, .data, .data, .sentinel, .sentinel, .pinned], laidTests := true, laidLooks := .later }
def LedgerNilCardSaid : Prop := Claim7.holds Tryz.pinned (.plain (OpenSpec.ofChange ledgerNilSpec)) ledgerNilCard

/-- THE TIED CARD OF 'estraylaw07.LedgerStays'. -/
def ledgerStaysCard : Claim7 := { stood := { row := ledgerStaysRow, standIns := [], harness := (true, "9c63e776fecb7080e0ed174e5fb2a3fb16be934b5be4477c259f4b4e212a588f"), looks := true }, kinds := [], alts := [], laidByText := true, laidKinds := [.data, .data, .data, .data, .sentinel, .sentinel, .pinned], laidTests := true, laidLooks := .later }
def LedgerStaysCardSaid : Prop := Claim7.holds Tryz.pinned (.plain (OpenSpec.ofChange ledgerStaysSpec)) ledgerStaysCard

/-- THE TIED CARD OF 'estraylaw07.LedgerFull'. -/
def ledgerFullCard : Claim7 := { stood := { row := ledgerFullRow, standIns := [], harness := (true, "9c63e776fecb7080e0ed174e5fb2a3fb16be934b5be4477c259f4b4e212a588f"), looks := true }, kinds := [], alts := [], laidByText := true, laidKinds := [.data, .data, .data, .data, .sentinel, .sentinel, .pinned], laidTests := true, laidLooks := .later }
def LedgerFullCardSaid : Prop := Claim7.holds Tryz.pinned (.plain (OpenSpec.ofChange ledgerFullSpec)) ledgerFullCard

/-- THE TIED CARD OF 'estraylaw07.LedgerTexts'. -/
def ledgerTextsCard : Claim7 := { stood := { row := ledgerTextsRow, standIns := [], harness := (true, "9c63e776fecb7080e0ed174e5fb2a3fb16be934b5be4477c259f4b4e212a588f"), looks := true }, kinds := [], alts := [], laidByText := true, laidKinds := [.data, .data, .data, .data, .sentinel, .sentinel, .pinned], laidTests := true, laidLooks := .later }
def LedgerTextsCardSaid : Prop := Claim7.holds Tryz.pinned (.plain (OpenSpec.ofChange ledgerTextsSpec)) ledgerTextsCard

/-- THE SECOND FORM's CARD OF 'estraylaw07.LedgerLines'. -/
def ledgerLinesUptoCard : Claim7 := { stood := { row := ledgerLinesUptoRow, standIns := [], harness := (true, "9c63e776fecb7080e0ed174e5fb2a3fb16be934b5be4477c259f4b4e212a588f"), looks := true }, kinds := [], alts := [], laidByText := true, laidKinds := [.data, .data, .data, .data, .sentinel, .sentinel, .pinned, .pinned], laidTests := true, laidLooks := .later }
def LedgerLinesUptoCardSaid : Prop := Claim7.holds Tryz.pinned (.plain (OpenSpec.upto ledgerLinesSpec)) ledgerLinesUptoCard

/-- THE SECOND FORM's CARD OF 'estraylaw07.LedgerReads'. -/
def ledgerReadsUptoCard : Claim7 := { stood := { row := ledgerReadsUptoRow, standIns := [], harness := (true, "9c63e776fecb7080e0ed174e5fb2a3fb16be934b5be4477c259f4b4e212a588f"), looks := true }, kinds := [], alts := [], laidByText := true, laidKinds := [.data, .data, .data, .data, .sentinel, .sentinel, .pinned], laidTests := true, laidLooks := .later }
def LedgerReadsUptoCardSaid : Prop := Claim7.holds Tryz.pinned (.plain (OpenSpec.upto ledgerReadsSpec)) ledgerReadsUptoCard

/-- THE SECOND FORM's CARD OF 'estraylaw07.LedgerBack'. -/
def ledgerBackUptoCard : Claim7 := { stood := { row := ledgerBackUptoRow, standIns := [], harness := (true, "9c63e776fecb7080e0ed174e5fb2a3fb16be934b5be4477c259f4b4e212a588f"), looks := true }, kinds := [], alts := [], laidByText := true, laidKinds := [.data, .data, .data, .data, .sentinel, .sentinel, .pinned], laidTests := true, laidLooks := .later }
def LedgerBackUptoCardSaid : Prop := Claim7.holds Tryz.pinned (.plain (OpenSpec.upto ledgerBackSpec)) ledgerBackUptoCard

/-- THE SECOND FORM's CARD OF 'estraylaw07.LedgerParts'. -/
def ledgerPartsUptoCard : Claim7 := { stood := { row := ledgerPartsUptoRow, standIns := [], harness := (true, "9c63e776fecb7080e0ed174e5fb2a3fb16be934b5be4477c259f4b4e212a588f"), looks := true }, kinds := [], alts := [], laidByText := true, laidKinds := [.data, .data, .data, .data, .sentinel, .sentinel, .pinned], laidTests := true, laidLooks := .later }
def LedgerPartsUptoCardSaid : Prop := Claim7.holds Tryz.pinned (.plain (OpenSpec.upto ledgerPartsSpec)) ledgerPartsUptoCard

/-- THE SECOND FORM's CARD OF 'estraylaw07.LedgerTimes'. -/
def ledgerTimesUptoCard : Claim7 := { stood := { row := ledgerTimesUptoRow, standIns := [], harness := (true, "9c63e776fecb7080e0ed174e5fb2a3fb16be934b5be4477c259f4b4e212a588f"), looks := true }, kinds := [], alts := [], laidByText := true, laidKinds := [.data, .data, .data, .data, .sentinel, .sentinel, .pinned], laidTests := true, laidLooks := .later }
def LedgerTimesUptoCardSaid : Prop := Claim7.holds Tryz.pinned (.plain (OpenSpec.upto ledgerTimesSpec)) ledgerTimesUptoCard

/-- THE SECOND FORM's CARD OF 'estraylaw07.LedgerPlays'. -/
def ledgerPlaysUptoCard : Claim7 := { stood := { row := ledgerPlaysUptoRow, standIns := [], harness := (true, "9c63e776fecb7080e0ed174e5fb2a3fb16be934b5be4477c259f4b4e212a588f"), looks := true }, kinds := [], alts := [], laidByText := true, laidKinds := [.data, .data, .data, .data, .sentinel, .sentinel, .pinned], laidTests := true, laidLooks := .later }
def LedgerPlaysUptoCardSaid : Prop := Claim7.holds Tryz.pinned (.plain (OpenSpec.upto ledgerPlaysSpec)) ledgerPlaysUptoCard

/-- THE SECOND FORM's CARD OF 'estraylaw07.LedgerNil'. -/
def ledgerNilUptoCard : Claim7 := { stood := { row := ledgerNilUptoRow, standIns := [], harness := (true, "9c63e776fecb7080e0ed174e5fb2a3fb16be934b5be4477c259f4b4e212a588f"), looks := true }, kinds := [], alts := [], laidByText := true, laidKinds := [.data, .data, .data, .data, .sentinel, .sentinel, .pinned], laidTests := true, laidLooks := .later }
def LedgerNilUptoCardSaid : Prop := Claim7.holds Tryz.pinned (.plain (OpenSpec.upto ledgerNilSpec)) ledgerNilUptoCard

/-- THE SECOND FORM's CARD OF 'estraylaw07.LedgerStays'. -/
def ledgerStaysUptoCard : Claim7 := { stood := { row := ledgerStaysUptoRow, standIns := [], harness := (true, "9c63e776fecb7080e0ed174e5fb2a3fb16be934b5be4477c259f4b4e212a588f"), looks := true }, kinds := [], alts := [], laidByText := true, laidKinds := [.data, .data, .data, .data, .sentinel, .sentinel, .pinned], laidTests := true, laidLooks := .later }
def LedgerStaysUptoCardSaid : Prop := Claim7.holds Tryz.pinned (.plain (OpenSpec.upto ledgerStaysSpec)) ledgerStaysUptoCard

/-- THE SECOND FORM's CARD OF 'estraylaw07.LedgerFull'. -/
def ledgerFullUptoCard : Claim7 := { stood := { row := ledgerFullUptoRow, standIns := [], harness := (true, "9c63e776fecb7080e0ed174e5fb2a3fb16be934b5be4477c259f4b4e212a588f"), looks := true }, kinds := [], alts := [], laidByText := true, laidKinds := [.data, .data, .data, .data, .sentinel, .sentinel, .pinned], laidTests := true, laidLooks := .later }
def LedgerFullUptoCardSaid : Prop := Claim7.holds Tryz.pinned (.plain (OpenSpec.upto ledgerFullSpec)) ledgerFullUptoCard

/-- THE SECOND FORM's CARD OF 'estraylaw07.LedgerTexts'. -/
def ledgerTextsUptoCard : Claim7 := { stood := { row := ledgerTextsUptoRow, standIns := [], harness := (true, "9c63e776fecb7080e0ed174e5fb2a3fb16be934b5be4477c259f4b4e212a588f"), looks := true }, kinds := [], alts := [], laidByText := true, laidKinds := [.data, .data, .data, .data, .sentinel, .sentinel, .pinned], laidTests := true, laidLooks := .later }
def LedgerTextsUptoCardSaid : Prop := Claim7.holds Tryz.pinned (.plain (OpenSpec.upto ledgerTextsSpec)) ledgerTextsUptoCard
end Rows
end Go.Proofs.YtinlfheonlpceaaGreatDoor
