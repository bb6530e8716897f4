/-
  DERIVED. GIVEN WITH THE SEED: THE CARDS: each row of YthkngleegefgbaaDoorRows.lean that lists a variable, with what it lists TIED to the program's text (the seventh form; the later family's looks); each row that meets fmt, with fmt's text TOLD by the authors' own Lean function (tested against real Go, not proved from fmt's source: count such statements apart). THE CARD IS WHAT COUNTS. Prove the row's statement (the work); the ties are given (YthkngleegefgbaaDoorTie.lean); close each card by the builder's one call (the guide's Derived/Test/ToyasCard.lean, 'card_holds'). Laid BY PROGRAM, IN A SANDBOX (cutbox-door.mjs). By AI agents, Wed Nov 11 2026. No macro, syntax, notation, axiom, sorry.
-/
import Derived.Test.YthkngleegefgbaaDoorRows
import GoSem.ClaimSeven
namespace Go.Proofs.YthkngleegefgbaaDoor
namespace Rows

/-- THE TIED CARD OF 'estraylaw39.OpMany'. -/
def opManyCard : Claim7 := { stood := { row := opManyRow, standIns := [], harness := (true, "2b2cd9f23d5de8514837498865367403b2992ccbd95c71c2630eb9bba326f0f1"), looks := true }, kinds := [], alts := [], laidByText := true, laidKinds := [.data, .data, .data, .data, .sentinel, .sentinel, .widerDeep, .pinned], laidTests := true, laidLooks := .later }
def OpManyCardSaid : Prop := Claim7.holds Tryd.pinned (.plain (OpenSpec.ofChange opManySpec)) opManyCard

/-- THE SECOND FORM's CARD OF 'estraylaw39.OpMany'. -/
def opManyUptoCard : Claim7 := { stood := { row := opManyUptoRow, standIns := [], harness := (true, "2b2cd9f23d5de8514837498865367403b2992ccbd95c71c2630eb9bba326f0f1"), looks := true }, kinds := [], alts := [], laidByText := true, laidKinds := [.data, .data, .data, .data, .sentinel, .sentinel, .widerDeep, .pinned], laidTests := true, laidLooks := .later }
def OpManyUptoCardSaid : Prop := Claim7.holds Tryd.pinned (.plain (OpenSpec.upto opManySpec)) opManyUptoCard
end Rows
end Go.Proofs.YthkngleegefgbaaDoor
