/-
  DERIVED. GIVEN WITH THE SEED: THE CARDS: each row of YtjebicdlbknemaaDoorRows.lean that lists a variable, with what it lists TIED to the program's text (the seventh form; the later family's looks); each row that meets fmt, with fmt's text TOLD by the authors' own Lean function (tested against real Go, not proved from fmt's source: count such statements apart). THE CARD IS WHAT COUNTS. Prove the row's statement (the work); the ties are given (YtjebicdlbknemaaDoorTie.lean); close each card by the builder's one call (the guide's Derived/Test/ToyasCard.lean, 'card_holds'). Laid BY PROGRAM, IN A SANDBOX (cutbox-door.mjs). By AI agents, Wed Nov 11 2026. No macro, syntax, notation, axiom, sorry.
-/
import Derived.Test.YtjebicdlbknemaaDoorRows
import GoSem.ClaimSeven
namespace Go.Proofs.YtjebicdlbknemaaDoor
namespace Rows

/-- THE TIED CARD OF 'estraylaw37.StatsChecks'. -/
def statsChecksCard : Claim7 := { stood := { row := statsChecksRow, standIns := [], harness := (true, "5a9c492f038aaa336a234897ed4833feb73c717ea101cf3eff93011467a45544"), looks := true }, kinds := [], alts := [], laidByText := true, laidKinds := [.data, .data, .data], laidTests := true, laidLooks := .later }
def StatsChecksCardSaid : Prop := Claim7.holds Tryd.pinned (.plain (OpenSpec.ofChange statsChecksSpec)) statsChecksCard

/-- THE TIED CARD OF 'estraylaw37.StatsOnce'. -/
def statsOnceCard : Claim7 := { stood := { row := statsOnceRow, standIns := [], harness := (true, "5a9c492f038aaa336a234897ed4833feb73c717ea101cf3eff93011467a45544"), looks := true }, kinds := [], alts := [], laidByText := true, laidKinds := [.data, .data, .data], laidTests := true, laidLooks := .later }
def StatsOnceCardSaid : Prop := Claim7.holds Tryd.pinned (.plain (OpenSpec.ofChange statsOnceSpec)) statsOnceCard

/-- THE TIED CARD OF 'estraylaw37.StatsRefuses'. -/
def statsRefusesCard : Claim7 := { stood := { row := statsRefusesRow, standIns := [], harness := (true, "5a9c492f038aaa336a234897ed4833feb73c717ea101cf3eff93011467a45544"), looks := true }, kinds := [], alts := [], laidByText := true, laidKinds := [.data, .data, .data], laidTests := true, laidLooks := .later }
def StatsRefusesCardSaid : Prop := Claim7.holds Tryd.pinned (.plain (OpenSpec.ofChange statsRefusesSpec)) statsRefusesCard

/-- THE TIED CARD OF 'estraylaw37.StatsTexts'. -/
def statsTextsCard : Claim7 := { stood := { row := statsTextsRow, standIns := [], harness := (true, "5a9c492f038aaa336a234897ed4833feb73c717ea101cf3eff93011467a45544"), looks := true }, kinds := [], alts := [], laidByText := true, laidKinds := [.data, .data, .data, .data, .sentinel, .sentinel, .pinned], laidTests := true, laidLooks := .later }
def StatsTextsCardSaid : Prop := Claim7.holds Tryd.pinned (.plain (OpenSpec.ofChange statsTextsSpec)) statsTextsCard

/-- THE TIED CARD OF 'estraylaw37.StatsBack'. -/
def statsBackCard : Claim7 := { stood := { row := statsBackRow, standIns := [], harness := (true, "5a9c492f038aaa336a234897ed4833feb73c717ea101cf3eff93011467a45544"), looks := true }, kinds := [], alts := [], laidByText := true, laidKinds := [.data, .data, .data, .data, .sentinel, .sentinel, .pinned], laidTests := true, laidLooks := .later }
def StatsBackCardSaid : Prop := Claim7.holds Tryd.pinned (.plain (OpenSpec.ofChange statsBackSpec)) statsBackCard

/-- THE TIED CARD OF 'estraylaw37.StatsReads'. -/
def statsReadsCard : Claim7 := { stood := { row := statsReadsRow, standIns := [], harness := (true, "5a9c492f038aaa336a234897ed4833feb73c717ea101cf3eff93011467a45544"), looks := true }, kinds := [], alts := [], laidByText := true, laidKinds := [.data, .data, .data, .data, .sentinel, .sentinel, .pinned], laidTests := true, laidLooks := .later }
def StatsReadsCardSaid : Prop := Claim7.holds Tryd.pinned (.plain (OpenSpec.ofChange statsReadsSpec)) statsReadsCard

/-- THE SECOND FORM's CARD OF 'estraylaw37.StatsChecks'. -/
def statsChecksUptoCard : Claim7 := { stood := { row := statsChecksUptoRow, standIns := [], harness := (true, "5a9c492f038aaa336a234897ed4833feb73c717ea101cf3eff93011467a45544"), looks := true }, kinds := [], alts := [], laidByText := true, laidKinds := [.data, .data, .data], laidTests := true, laidLooks := .later }
def StatsChecksUptoCardSaid : Prop := Claim7.holds Tryd.pinned (.plain (OpenSpec.upto statsChecksSpec)) statsChecksUptoCard

/-- THE SECOND FORM's CARD OF 'estraylaw37.StatsOnce'. -/
def statsOnceUptoCard : Claim7 := { stood := { row := statsOnceUptoRow, standIns := [], harness := (true, "5a9c492f038aaa336a234897ed4833feb73c717ea101cf3eff93011467a45544"), looks := true }, kinds := [], alts := [], laidByText := true, laidKinds := [.data, .data, .data], laidTests := true, laidLooks := .later }
def StatsOnceUptoCardSaid : Prop := Claim7.holds Tryd.pinned (.plain (OpenSpec.upto statsOnceSpec)) statsOnceUptoCard

/-- THE SECOND FORM's CARD OF 'estraylaw37.StatsRefuses'. -/
def statsRefusesUptoCard : Claim7 := { stood := { row := statsRefusesUptoRow, standIns := [], harness := (true, "5a9c492f038aaa336a234897ed4833feb73c717ea101cf3eff93011467a45544"), looks := true }, kinds := [], alts := [], laidByText := true, laidKinds := [.data, .data, .data], laidTests := true, laidLooks := .later }
def StatsRefusesUptoCardSaid : Prop := Claim7.holds Tryd.pinned (.plain (OpenSpec.upto statsRefusesSpec)) statsRefusesUptoCard

/-- THE SECOND FORM's CARD OF 'estraylaw37.StatsTexts'. -/
def statsTextsUptoCard : Claim7 := { stood := { row := statsTextsUptoRow, standIns := [], harness := (true, "5a9c492f038aaa336a234897ed4833feb73c717ea101cf3eff93011467a45544"), looks := true }, kinds := [], alts := [], laidByText := true, laidKinds := [.data, .data, .data, .data, .sentinel, .sentinel, .pinned], laidTests := true, laidLooks := .later }
def StatsTextsUptoCardSaid : Prop := Claim7.holds Tryd.pinned (.plain (OpenSpec.upto statsTextsSpec)) statsTextsUptoCard

/-- THE SECOND FORM's CARD OF 'estraylaw37.StatsBack'. -/
def statsBackUptoCard : Claim7 := { stood := { row := statsBackUptoRow, standIns := [], harness := (true, "5a9c492f038aaa336a234897ed4833feb73c717ea101cf3eff93011467a45544"), looks := true }, kinds := [], alts := [], laidByText := true, laidKinds := [.data, .data, .data, .data, .sentinel, .sentinel, .pinned], laidTests := true, laidLooks := .later }
def StatsBackUptoCardSaid : Prop := Claim7.holds Tryd.pinned (.plain (OpenSpec.upto statsBackSpec)) statsBackUptoCard

/-- THE SECOND FORM's CARD OF 'estraylaw37.StatsReads'. -/
def statsReadsUptoCard : Claim7 := { stood := { row := statsReadsUptoRow, standIns := [], harness := (true, "5a9c492f038aaa336a234897ed4833feb73c717ea101cf3eff93011467a45544"), looks := true }, kinds := [], alts := [], laidByText := true, laidKinds := [.data, .data, .data, .data, .sentinel, .sentinel, .pinned], laidTests := true, laidLooks := .later }
def StatsReadsUptoCardSaid : Prop := Claim7.holds Tryd.pinned (.plain (OpenSpec.upto statsReadsSpec)) statsReadsUptoCard
end Rows
end Go.Proofs.YtjebicdlbknemaaDoor
