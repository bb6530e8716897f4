/-
  DERIVED. GIVEN WITH THE SEED: THE CARDS: each row of YtbbleafcflhmiaaGreatDoorRows.lean that lists a variable, with what it lists TIED to the program's text (the seventh form; the later family's looks); each row that meets fmt, with fmt's text TOLD by the authors' own Lean function (tested against real Go, not proved from fmt's source: count such statements apart). THE CARD IS WHAT COUNTS. Prove the row's statement (the work); the ties are given (YtbbleafcflhmiaaGreatDoorTie.lean); close each card by the builder's one call (the guide's Derived/Test/ToyasCard.lean, 'card_holds'). Laid BY PROGRAM, IN A SANDBOX (cutbox-door.mjs). By AI agents, Wed Nov 11 2026. No macro, syntax, notation, axiom, sorry.
-/
import Derived.Test.YtbbleafcflhmiaaGreatDoorRows
import GoSem.ClaimSeven
namespace Go.Proofs.YtbbleafcflhmiaaGreatDoor
namespace Rows

/-- THE TIED CARD OF 'estraylaw39.OpKinds'. -/
def opKindsCard : Claim7 := { stood := { row := opKindsRow, standIns := [], harness := (true, "f1b2a2e417384eba37cdcf93333d6656c7da200001ee4c2436af0f63ac9d742b"), looks := true }, kinds := [], alts := [], laidByText := true, laidKinds := [.data, .data, .data, .data, .sentinel, .sentinel, .widerDeep, .pinned], laidTests := true, laidLooks := .later }
def OpKindsCardSaid : Prop := Claim7.holds Tryz.pinned (.plain (OpenSpec.ofChange opKindsSpec)) opKindsCard

/-- THE TIED CARD OF 'estraylaw39.OpScripts'. -/
def opScriptsCard : Claim7 := { stood := { row := opScriptsRow, standIns := [], harness := (true, "f1b2a2e417384eba37cdcf93333d6656c7da200001ee4c2436af0f63ac9d742b"), looks := true }, kinds := [], alts := [], laidByText := true, laidKinds := [.data, .data, .data, .data, .sentinel, .sentinel, .widerDeep, .pinned], laidTests := true, laidLooks := .later }
def OpScriptsCardSaid : Prop := Claim7.holds Tryz.pinned (.plain (OpenSpec.ofChange opScriptsSpec)) opScriptsCard

/-- THE SECOND FORM's CARD OF 'estraylaw39.OpKinds'. -/
def opKindsUptoCard : Claim7 := { stood := { row := opKindsUptoRow, standIns := [], harness := (true, "f1b2a2e417384eba37cdcf93333d6656c7da200001ee4c2436af0f63ac9d742b"), looks := true }, kinds := [], alts := [], laidByText := true, laidKinds := [.data, .data, .data, .data, .sentinel, .sentinel, .widerDeep, .pinned], laidTests := true, laidLooks := .later }
def OpKindsUptoCardSaid : Prop := Claim7.holds Tryz.pinned (.plain (OpenSpec.upto opKindsSpec)) opKindsUptoCard

/-- THE SECOND FORM's CARD OF 'estraylaw39.OpScripts'. -/
def opScriptsUptoCard : Claim7 := { stood := { row := opScriptsUptoRow, standIns := [], harness := (true, "f1b2a2e417384eba37cdcf93333d6656c7da200001ee4c2436af0f63ac9d742b"), looks := true }, kinds := [], alts := [], laidByText := true, laidKinds := [.data, .data, .data, .data, .sentinel, .sentinel, .widerDeep, .pinned], laidTests := true, laidLooks := .later }
def OpScriptsUptoCardSaid : Prop := Claim7.holds Tryz.pinned (.plain (OpenSpec.upto opScriptsSpec)) opScriptsUptoCard
end Rows
end Go.Proofs.YtbbleafcflhmiaaGreatDoor
