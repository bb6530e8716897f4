/-
  DERIVED. GIVEN WITH THE SEED: THE CARDS: each row of YtkjpdciccablpaaGreatDoorRows.lean that lists a variable, with what it lists TIED to the program's text (the seventh form; the later family's looks); each row that meets fmt, with fmt's text TOLD by the authors' own Lean function (tested against real Go, not proved from fmt's source: count such statements apart). THE CARD IS WHAT COUNTS. Prove the row's statement (the work); the ties are given (YtkjpdciccablpaaGreatDoorTie.lean); close each card by the builder's one call (the guide's Derived/Test/ToyasCard.lean, 'card_holds'). Laid BY PROGRAM, IN A SANDBOX (cutbox-door.mjs). By AI agents, Wed Nov 11 2026. No macro, syntax, notation, axiom, sorry.
-/
import Derived.Test.YtkjpdciccablpaaGreatDoorRows
import GoSem.ClaimSeven
namespace Go.Proofs.YtkjpdciccablpaaGreatDoor
namespace Rows

/-- THE TIED CARD OF 'estraylaw37.StatsCounts'. -/
def statsCountsCard : Claim7 := { stood := { row := statsCountsRow, standIns := [], harness := (true, "737e18f2d806810ab2c84373715de43c0e846b6bb53af193c9732263823e6e99"), looks := false }, kinds := [], alts := [], laidByText := true, laidKinds := [.data, .data, .data], laidTests := true, laidLooks := .later }
def StatsCountsCardSaid : Prop := Claim7.holds Tryz.pinned (.plain (OpenSpec.ofChange statsCountsSpec)) statsCountsCard

/-- THE TIED CARD OF 'estraylaw37.StatsFollow'. -/
def statsFollowCard : Claim7 := { stood := { row := statsFollowRow, standIns := [], harness := (true, "737e18f2d806810ab2c84373715de43c0e846b6bb53af193c9732263823e6e99"), looks := false }, kinds := [], alts := [], laidByText := true, laidKinds := [.data, .data, .data], laidTests := true, laidLooks := .later }
def StatsFollowCardSaid : Prop := Claim7.holds Tryz.pinned (.plain (OpenSpec.ofChange statsFollowSpec)) statsFollowCard

/-- THE TIED CARD OF 'estraylaw37.StatsOthers'. -/
def statsOthersCard : Claim7 := { stood := { row := statsOthersRow, standIns := [], harness := (true, "737e18f2d806810ab2c84373715de43c0e846b6bb53af193c9732263823e6e99"), looks := false }, kinds := [], alts := [], laidByText := true, laidKinds := [.data, .data, .data], laidTests := true, laidLooks := .later }
def StatsOthersCardSaid : Prop := Claim7.holds Tryz.pinned (.plain (OpenSpec.ofChange statsOthersSpec)) statsOthersCard

/-- THE SECOND FORM's CARD OF 'estraylaw37.StatsCounts'. -/
def statsCountsUptoCard : Claim7 := { stood := { row := statsCountsUptoRow, standIns := [], harness := (true, "737e18f2d806810ab2c84373715de43c0e846b6bb53af193c9732263823e6e99"), looks := false }, kinds := [], alts := [], laidByText := true, laidKinds := [.data, .data, .data], laidTests := true, laidLooks := .later }
def StatsCountsUptoCardSaid : Prop := Claim7.holds Tryz.pinned (.plain (OpenSpec.upto statsCountsSpec)) statsCountsUptoCard

/-- THE SECOND FORM's CARD OF 'estraylaw37.StatsFollow'. -/
def statsFollowUptoCard : Claim7 := { stood := { row := statsFollowUptoRow, standIns := [], harness := (true, "737e18f2d806810ab2c84373715de43c0e846b6bb53af193c9732263823e6e99"), looks := false }, kinds := [], alts := [], laidByText := true, laidKinds := [.data, .data, .data], laidTests := true, laidLooks := .later }
def StatsFollowUptoCardSaid : Prop := Claim7.holds Tryz.pinned (.plain (OpenSpec.upto statsFollowSpec)) statsFollowUptoCard

/-- THE SECOND FORM's CARD OF 'estraylaw37.StatsOthers'. -/
def statsOthersUptoCard : Claim7 := { stood := { row := statsOthersUptoRow, standIns := [], harness := (true, "737e18f2d806810ab2c84373715de43c0e846b6bb53af193c9732263823e6e99"), looks := false }, kinds := [], alts := [], laidByText := true, laidKinds := [.data, .data, .data], laidTests := true, laidLooks := .later }
def StatsOthersUptoCardSaid : Prop := Claim7.holds Tryz.pinned (.plain (OpenSpec.upto statsOthersSpec)) statsOthersUptoCard
end Rows
end Go.Proofs.YtkjpdciccablpaaGreatDoor
