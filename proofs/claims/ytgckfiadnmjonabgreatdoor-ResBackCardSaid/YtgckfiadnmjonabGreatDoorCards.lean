/-
  DERIVED. GIVEN WITH THE SEED: THE CARDS: each row of YtgckfiadnmjonabGreatDoorRows.lean that lists a variable, with what it lists TIED to the program's text (the seventh form; the later family's looks); each row that meets fmt, with fmt's text TOLD by the authors' own Lean function (tested against real Go, not proved from fmt's source: count such statements apart). THE CARD IS WHAT COUNTS. Prove the row's statement (the work); the ties are given (YtgckfiadnmjonabGreatDoorTie.lean); close each card by the builder's one call (the guide's Derived/Test/ToyasCard.lean, 'card_holds'). Laid BY PROGRAM, IN A SANDBOX (cutbox-door.mjs). By AI agents, Wed Nov 11 2026. No macro, syntax, notation, axiom, sorry.
-/
import Derived.Test.YtgckfiadnmjonabGreatDoorRows
import GoSem.ClaimSeven
namespace Go.Proofs.YtgckfiadnmjonabGreatDoor
namespace Rows

/-- THE TIED CARD OF 'estraylaw31.ResWaits'. -/
def resWaitsCard : Claim7 := { stood := { row := resWaitsRow, standIns := [], harness := (true, "5ffdf81c9b350a7b1b4c95065a9f78e76a156e9227311f5581f49d9df5f7b814"), looks := true }, kinds := [], alts := [], laidByText := true, laidKinds := [.data, .data, .data, .sentinel, .sentinel], laidTests := true, laidLooks := .later }
def ResWaitsCardSaid : Prop := Claim7.holds Tryz.pinned (.plain (OpenSpec.ofChange resWaitsSpec)) resWaitsCard

/-- THE TIED CARD OF 'estraylaw31.ResFlaws'. -/
def resFlawsCard : Claim7 := { stood := { row := resFlawsRow, standIns := [], harness := (true, "5ffdf81c9b350a7b1b4c95065a9f78e76a156e9227311f5581f49d9df5f7b814"), looks := true }, kinds := [], alts := [], laidByText := true, laidKinds := [.data, .data, .data, .sentinel, .sentinel], laidTests := true, laidLooks := .later }
def ResFlawsCardSaid : Prop := Claim7.holds Tryz.pinned (.plain (OpenSpec.ofChange resFlawsSpec)) resFlawsCard

/-- THE TIED CARD OF 'estraylaw31.ResBack'. -/
def resBackCard : Claim7 := { stood := { row := resBackRow, standIns := [], harness := (true, "5ffdf81c9b350a7b1b4c95065a9f78e76a156e9227311f5581f49d9df5f7b814"), looks := true }, kinds := [], alts := [], laidByText := true, laidKinds := [.data, .data, .data, .data, .sentinel, .sentinel, .pinned], laidTests := true, laidLooks := .later }
def ResBackCardSaid : Prop := Claim7.holds Tryz.pinned (.plain (OpenSpec.ofChange resBackSpec)) resBackCard

/-- THE SECOND FORM's CARD OF 'estraylaw31.ResWaits'. -/
def resWaitsUptoCard : Claim7 := { stood := { row := resWaitsUptoRow, standIns := [], harness := (true, "5ffdf81c9b350a7b1b4c95065a9f78e76a156e9227311f5581f49d9df5f7b814"), looks := true }, kinds := [], alts := [], laidByText := true, laidKinds := [.data, .data, .data, .sentinel, .sentinel], laidTests := true, laidLooks := .later }
def ResWaitsUptoCardSaid : Prop := Claim7.holds Tryz.pinned (.plain (OpenSpec.upto resWaitsSpec)) resWaitsUptoCard

/-- THE SECOND FORM's CARD OF 'estraylaw31.ResFlaws'. -/
def resFlawsUptoCard : Claim7 := { stood := { row := resFlawsUptoRow, standIns := [], harness := (true, "5ffdf81c9b350a7b1b4c95065a9f78e76a156e9227311f5581f49d9df5f7b814"), looks := true }, kinds := [], alts := [], laidByText := true, laidKinds := [.data, .data, .data, .sentinel, .sentinel], laidTests := true, laidLooks := .later }
def ResFlawsUptoCardSaid : Prop := Claim7.holds Tryz.pinned (.plain (OpenSpec.upto resFlawsSpec)) resFlawsUptoCard

/-- THE SECOND FORM's CARD OF 'estraylaw31.ResBack'. -/
def resBackUptoCard : Claim7 := { stood := { row := resBackUptoRow, standIns := [], harness := (true, "5ffdf81c9b350a7b1b4c95065a9f78e76a156e9227311f5581f49d9df5f7b814"), looks := true }, kinds := [], alts := [], laidByText := true, laidKinds := [.data, .data, .data, .data, .sentinel, .sentinel, .pinned], laidTests := true, laidLooks := .later }
def ResBackUptoCardSaid : Prop := Claim7.holds Tryz.pinned (.plain (OpenSpec.upto resBackSpec)) resBackUptoCard
end Rows
end Go.Proofs.YtgckfiadnmjonabGreatDoor
