/-
  DERIVED. GIVEN WITH THE SEED: THE CARDS: each row of YthkngleegefgbaaGreatDoorRows.lean that lists a variable, with what it lists TIED to the program's text (the seventh form; the later family's looks); each row that meets fmt, with fmt's text TOLD by the authors' own Lean function (tested against real Go, not proved from fmt's source: count such statements apart). THE CARD IS WHAT COUNTS. Prove the row's statement (the work); the ties are given (YthkngleegefgbaaGreatDoorTie.lean); close each card by the builder's one call (the guide's Derived/Test/ToyasCard.lean, 'card_holds'). Laid BY PROGRAM, IN A SANDBOX (cutbox-door.mjs). By AI agents, Wed Nov 11 2026. No macro, syntax, notation, axiom, sorry.
-/
import Derived.Test.YthkngleegefgbaaGreatDoorRows
import GoSem.ClaimSeven
namespace Go.Proofs.YthkngleegefgbaaGreatDoor
namespace Rows

/-- THE TIED CARD OF 'estraylaw39.OpOne'. -/
def opOneCard : Claim7 := { stood := { row := opOneRow, standIns := [], harness := (true, "f75fc9eb90d5d67024a8c990a493b632fad2993d2de6821cbf950879cadf527d"), looks := true }, kinds := [], alts := [], laidByText := true, laidKinds := [.data, .data, .data, .data, .sentinel, .sentinel, .widerDeep, .pinned], laidTests := true, laidLooks := .later }
def OpOneCardSaid : Prop := Claim7.holds Tryz.pinned (.plain (OpenSpec.ofChange opOneSpec)) opOneCard

/-- THE TIED CARD OF 'estraylaw39.OpReads'. -/
def opReadsCard : Claim7 := { stood := { row := opReadsRow, standIns := [], harness := (true, "f75fc9eb90d5d67024a8c990a493b632fad2993d2de6821cbf950879cadf527d"), looks := true }, kinds := [], alts := [], laidByText := true, laidKinds := [.data, .data, .data, .data, .sentinel, .sentinel, .widerDeep, .pinned], laidTests := true, laidLooks := .later }
def OpReadsCardSaid : Prop := Claim7.holds Tryz.pinned (.plain (OpenSpec.ofChange opReadsSpec)) opReadsCard

/-- THE TIED CARD OF 'estraylaw39.OpLists'. -/
def opListsCard : Claim7 := { stood := { row := opListsRow, standIns := [], harness := (true, "f75fc9eb90d5d67024a8c990a493b632fad2993d2de6821cbf950879cadf527d"), looks := true }, kinds := [], alts := [], laidByText := true, laidKinds := [.data, .data, .data, .data, .sentinel, .sentinel, .widerDeep, .pinned], laidTests := true, laidLooks := .later }
def OpListsCardSaid : Prop := Claim7.holds Tryz.pinned (.plain (OpenSpec.ofChange opListsSpec)) opListsCard

/-- THE SECOND FORM's CARD OF 'estraylaw39.OpOne'. -/
def opOneUptoCard : Claim7 := { stood := { row := opOneUptoRow, standIns := [], harness := (true, "f75fc9eb90d5d67024a8c990a493b632fad2993d2de6821cbf950879cadf527d"), looks := true }, kinds := [], alts := [], laidByText := true, laidKinds := [.data, .data, .data, .data, .sentinel, .sentinel, .widerDeep, .pinned], laidTests := true, laidLooks := .later }
def OpOneUptoCardSaid : Prop := Claim7.holds Tryz.pinned (.plain (OpenSpec.upto opOneSpec)) opOneUptoCard

/-- THE SECOND FORM's CARD OF 'estraylaw39.OpReads'. -/
def opReadsUptoCard : Claim7 := { stood := { row := opReadsUptoRow, standIns := [], harness := (true, "f75fc9eb90d5d67024a8c990a493b632fad2993d2de6821cbf950879cadf527d"), looks := true }, kinds := [], alts := [], laidByText := true, laidKinds := [.data, .data, .data, .data, .sentinel, .sentinel, .widerDeep, .pinned], laidTests := true, laidLooks := .later }
def OpReadsUptoCardSaid : Prop := Claim7.holds Tryz.pinned (.plain (OpenSpec.upto opReadsSpec)) opReadsUptoCard

/-- THE SECOND FORM's CARD OF 'estraylaw39.OpLists'. -/
def opListsUptoCard : Claim7 := { stood := { row := opListsUptoRow, standIns := [], harness := (true, "f75fc9eb90d5d67024a8c990a493b632fad2993d2de6821cbf950879cadf527d"), looks := true }, kinds := [], alts := [], laidByText := true, laidKinds := [.data, .data, .data, .data, .sentinel, .sentinel, .widerDeep, .pinned], laidTests := true, laidLooks := .later }
def OpListsUptoCardSaid : Prop := Claim7.holds Tryz.pinned (.plain (OpenSpec.upto opListsSpec)) opListsUptoCard
end Rows
end Go.Proofs.YthkngleegefgbaaGreatDoor
