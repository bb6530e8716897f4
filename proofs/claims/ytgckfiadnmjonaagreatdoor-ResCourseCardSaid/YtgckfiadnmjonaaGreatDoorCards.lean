/-
  DERIVED. GIVEN WITH THE SEED: THE CARDS: each row of YtgckfiadnmjonaaGreatDoorRows.lean that lists a variable, with what it lists TIED to the program's text (the seventh form; the later family's looks); each row that meets fmt, with fmt's text TOLD by the authors' own Lean function (tested against real Go, not proved from fmt's source: count such statements apart). THE CARD IS WHAT COUNTS. Prove the row's statement (the work); the ties are given (YtgckfiadnmjonaaGreatDoorTie.lean); close each card by the builder's one call (the guide's Derived/Test/ToyasCard.lean, 'card_holds'). Laid BY PROGRAM, IN A SANDBOX (cutbox-door.mjs). By AI agents, Wed Nov 11 2026. No macro, syntax, notation, axiom, sorry.
-/
import Derived.Test.YtgckfiadnmjonaaGreatDoorRows
import GoSem.ClaimSeven
namespace Go.Proofs.YtgckfiadnmjonaaGreatDoor
namespace Rows

/-- THE TIED CARD OF 'estraylaw31.ResCalls'. -/
def resCallsCard : Claim7 := { stood := { row := resCallsRow, standIns := [], harness := (true, "195c646d050c0b20bb9e306209e32d895d4fc04393eb5b7f7b0371bbaab4721f"), looks := true }, kinds := [], alts := [], laidByText := true, laidKinds := [.data, .data, .data, .sentinel, .sentinel], laidTests := true, laidLooks := .later }
def ResCallsCardSaid : Prop := Claim7.holds Tryz.pinned (.plain (OpenSpec.ofChange resCallsSpec)) resCallsCard

/-- THE TIED CARD OF 'estraylaw31.ResNews'. -/
def resNewsCard : Claim7 := { stood := { row := resNewsRow, standIns := [], harness := (true, "195c646d050c0b20bb9e306209e32d895d4fc04393eb5b7f7b0371bbaab4721f"), looks := true }, kinds := [], alts := [], laidByText := true, laidKinds := [.data, .data, .data, .sentinel, .sentinel], laidTests := true, laidLooks := .later }
def ResNewsCardSaid : Prop := Claim7.holds Tryz.pinned (.plain (OpenSpec.ofChange resNewsSpec)) resNewsCard

/-- THE TIED CARD OF 'estraylaw31.ResReads'. -/
def resReadsCard : Claim7 := { stood := { row := resReadsRow, standIns := [], harness := (true, "195c646d050c0b20bb9e306209e32d895d4fc04393eb5b7f7b0371bbaab4721f"), looks := true }, kinds := [], alts := [], laidByText := true, laidKinds := [.data, .data, .data, .sentinel, .sentinel], laidTests := true, laidLooks := .later }
def ResReadsCardSaid : Prop := Claim7.holds Tryz.pinned (.plain (OpenSpec.ofChange resReadsSpec)) resReadsCard

/-- THE TIED CARD OF 'estraylaw31.ResCourse'. -/
def resCourseCard : Claim7 := { stood := { row := resCourseRow, standIns := [], harness := (true, "195c646d050c0b20bb9e306209e32d895d4fc04393eb5b7f7b0371bbaab4721f"), looks := true }, kinds := [], alts := [], laidByText := true, laidKinds := [.data, .data, .data, .sentinel, .sentinel], laidTests := true, laidLooks := .later }
def ResCourseCardSaid : Prop := Claim7.holds Tryz.pinned (.plain (OpenSpec.ofChange resCourseSpec)) resCourseCard

/-- THE SECOND FORM's CARD OF 'estraylaw31.ResCalls'. -/
def resCallsUptoCard : Claim7 := { stood := { row := resCallsUptoRow, standIns := [], harness := (true, "195c646d050c0b20bb9e306209e32d895d4fc04393eb5b7f7b0371bbaab4721f"), looks := true }, kinds := [], alts := [], laidByText := true, laidKinds := [.data, .data, .data, .sentinel, .sentinel], laidTests := true, laidLooks := .later }
def ResCallsUptoCardSaid : Prop := Claim7.holds Tryz.pinned (.plain (OpenSpec.upto resCallsSpec)) resCallsUptoCard

/-- THE SECOND FORM's CARD OF 'estraylaw31.ResNews'. -/
def resNewsUptoCard : Claim7 := { stood := { row := resNewsUptoRow, standIns := [], harness := (true, "195c646d050c0b20bb9e306209e32d895d4fc04393eb5b7f7b0371bbaab4721f"), looks := true }, kinds := [], alts := [], laidByText := true, laidKinds := [.data, .data, .data, .sentinel, .sentinel], laidTests := true, laidLooks := .later }
def ResNewsUptoCardSaid : Prop := Claim7.holds Tryz.pinned (.plain (OpenSpec.upto resNewsSpec)) resNewsUptoCard

/-- THE SECOND FORM's CARD OF 'estraylaw31.ResReads'. -/
def resReadsUptoCard : Claim7 := { stood := { row := resReadsUptoRow, standIns := [], harness := (true, "195c646d050c0b20bb9e306209e32d895d4fc04393eb5b7f7b0371bbaab4721f"), looks := true }, kinds := [], alts := [], laidByText := true, laidKinds := [.data, .data, .data, .sentinel, .sentinel], laidTests := true, laidLooks := .later }
def ResReadsUptoCardSaid : Prop := Claim7.holds Tryz.pinned (.plain (OpenSpec.upto resReadsSpec)) resReadsUptoCard

/-- THE SECOND FORM's CARD OF 'estraylaw31.ResCourse'. -/
def resCourseUptoCard : Claim7 := { stood := { row := resCourseUptoRow, standIns := [], harness := (true, "195c646d050c0b20bb9e306209e32d895d4fc04393eb5b7f7b0371bbaab4721f"), looks := true }, kinds := [], alts := [], laidByText := true, laidKinds := [.data, .data, .data, .sentinel, .sentinel], laidTests := true, laidLooks := .later }
def ResCourseUptoCardSaid : Prop := Claim7.holds Tryz.pinned (.plain (OpenSpec.upto resCourseSpec)) resCourseUptoCard
end Rows
end Go.Proofs.YtgckfiadnmjonaaGreatDoor
