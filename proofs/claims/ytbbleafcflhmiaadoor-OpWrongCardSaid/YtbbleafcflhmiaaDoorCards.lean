/-
  DERIVED. GIVEN WITH THE SEED: THE CARDS: each row of YtbbleafcflhmiaaDoorRows.lean that lists a variable, with what it lists TIED to the program's text (the seventh form; the later family's looks); each row that meets fmt, with fmt's text TOLD by the authors' own Lean function (tested against real Go, not proved from fmt's source: count such statements apart). THE CARD IS WHAT COUNTS. Prove the row's statement (the work); the ties are given (YtbbleafcflhmiaaDoorTie.lean); close each card by the builder's one call (the guide's Derived/Test/ToyasCard.lean, 'card_holds'). Laid BY PROGRAM, IN A SANDBOX (cutbox-door.mjs). By AI agents, Wed Nov 11 2026. No macro, syntax, notation, axiom, sorry.
-/
import Derived.Test.YtbbleafcflhmiaaDoorRows
import GoSem.ClaimSeven
namespace Go.Proofs.YtbbleafcflhmiaaDoor
namespace Rows

/-- THE TIED CARD OF 'estraylaw39.OpFlaws'. -/
def opFlawsCard : Claim7 := { stood := { row := opFlawsRow, standIns := [], harness := (true, "eceb4fbfd9b108f7fcf011e5668ff6c57c90ee1b516ff3054754c8c59dc11dc2"), looks := true }, kinds := [], alts := [], laidByText := true, laidKinds := [.data, .data, .data, .data, .sentinel, .sentinel, .widerDeep, .pinned], laidTests := true, laidLooks := .later }
def OpFlawsCardSaid : Prop := Claim7.holds Tryd.pinned (.plain (OpenSpec.ofChange opFlawsSpec)) opFlawsCard

/-- THE TIED CARD OF 'estraylaw39.OpBack'. -/
def opBackCard : Claim7 := { stood := { row := opBackRow, standIns := [], harness := (true, "eceb4fbfd9b108f7fcf011e5668ff6c57c90ee1b516ff3054754c8c59dc11dc2"), looks := true }, kinds := [], alts := [], laidByText := true, laidKinds := [.data, .data, .data, .data, .sentinel, .sentinel, .widerDeep, .pinned], laidTests := true, laidLooks := .later }
def OpBackCardSaid : Prop := Claim7.holds Tryd.pinned (.plain (OpenSpec.ofChange opBackSpec)) opBackCard

/-- THE TIED CARD OF 'estraylaw39.OpWrong'. -/
def opWrongCard : Claim7 := { stood := { row := opWrongRow, standIns := [], harness := (true, "eceb4fbfd9b108f7fcf011e5668ff6c57c90ee1b516ff3054754c8c59dc11dc2"), looks := true }, kinds := [], alts := [], laidByText := true, laidKinds := [.data, .data, .data, .data, .sentinel, .sentinel, .widerDeep, .pinned], laidTests := true, laidLooks := .later }
def OpWrongCardSaid : Prop := Claim7.holds Tryd.pinned (.plain (OpenSpec.ofChange opWrongSpec)) opWrongCard

/-- THE TIED CARD OF 'estraylaw39.OpMany'. -/
def opManyCard : Claim7 := { stood := { row := opManyRow, standIns := [], harness := (true, "eceb4fbfd9b108f7fcf011e5668ff6c57c90ee1b516ff3054754c8c59dc11dc2"), looks := true }, kinds := [], alts := [], laidByText := true, laidKinds := [.data, .data, .data, .data, .sentinel, .sentinel, .widerDeep, .pinned], laidTests := true, laidLooks := .later }
def OpManyCardSaid : Prop := Claim7.holds Tryd.pinned (.plain (OpenSpec.ofChange opManySpec)) opManyCard

/-- THE SECOND FORM's CARD OF 'estraylaw39.OpFlaws'. -/
def opFlawsUptoCard : Claim7 := { stood := { row := opFlawsUptoRow, standIns := [], harness := (true, "eceb4fbfd9b108f7fcf011e5668ff6c57c90ee1b516ff3054754c8c59dc11dc2"), looks := true }, kinds := [], alts := [], laidByText := true, laidKinds := [.data, .data, .data, .data, .sentinel, .sentinel, .widerDeep, .pinned], laidTests := true, laidLooks := .later }
def OpFlawsUptoCardSaid : Prop := Claim7.holds Tryd.pinned (.plain (OpenSpec.upto opFlawsSpec)) opFlawsUptoCard

/-- THE SECOND FORM's CARD OF 'estraylaw39.OpBack'. -/
def opBackUptoCard : Claim7 := { stood := { row := opBackUptoRow, standIns := [], harness := (true, "eceb4fbfd9b108f7fcf011e5668ff6c57c90ee1b516ff3054754c8c59dc11dc2"), looks := true }, kinds := [], alts := [], laidByText := true, laidKinds := [.data, .data, .data, .data, .sentinel, .sentinel, .widerDeep, .pinned], laidTests := true, laidLooks := .later }
def OpBackUptoCardSaid : Prop := Claim7.holds Tryd.pinned (.plain (OpenSpec.upto opBackSpec)) opBackUptoCard

/-- THE SECOND FORM's CARD OF 'estraylaw39.OpWrong'. -/
def opWrongUptoCard : Claim7 := { stood := { row := opWrongUptoRow, standIns := [], harness := (true, "eceb4fbfd9b108f7fcf011e5668ff6c57c90ee1b516ff3054754c8c59dc11dc2"), looks := true }, kinds := [], alts := [], laidByText := true, laidKinds := [.data, .data, .data, .data, .sentinel, .sentinel, .widerDeep, .pinned], laidTests := true, laidLooks := .later }
def OpWrongUptoCardSaid : Prop := Claim7.holds Tryd.pinned (.plain (OpenSpec.upto opWrongSpec)) opWrongUptoCard

/-- THE SECOND FORM's CARD OF 'estraylaw39.OpMany'. -/
def opManyUptoCard : Claim7 := { stood := { row := opManyUptoRow, standIns := [], harness := (true, "eceb4fbfd9b108f7fcf011e5668ff6c57c90ee1b516ff3054754c8c59dc11dc2"), looks := true }, kinds := [], alts := [], laidByText := true, laidKinds := [.data, .data, .data, .data, .sentinel, .sentinel, .widerDeep, .pinned], laidTests := true, laidLooks := .later }
def OpManyUptoCardSaid : Prop := Claim7.holds Tryd.pinned (.plain (OpenSpec.upto opManySpec)) opManyUptoCard
end Rows
end Go.Proofs.YtbbleafcflhmiaaDoor
