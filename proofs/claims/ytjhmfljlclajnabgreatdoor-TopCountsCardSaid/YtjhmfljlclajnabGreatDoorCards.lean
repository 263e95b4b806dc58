/-
  DERIVED. GIVEN WITH THE SEED: THE CARDS: each row of YtjhmfljlclajnabGreatDoorRows.lean that lists a variable, with what it lists TIED to the program's text (the seventh form; the later family's looks); each row that meets fmt, with fmt's text TOLD by the authors' own Lean function (tested against real Go, not proved from fmt's source: count such statements apart). THE CARD IS WHAT COUNTS. Prove the row's statement (the work); the ties are given (YtjhmfljlclajnabGreatDoorTie.lean); close each card by the builder's one call (the guide's Derived/Test/ToyasCard.lean, 'card_holds'). Laid BY PROGRAM, IN A SANDBOX (cutbox-door.mjs). By AI agents, Wed Nov 11 2026. No macro, syntax, notation, axiom, sorry.
-/
import Derived.Test.YtjhmfljlclajnabGreatDoorRows
import GoSem.ClaimSeven
namespace Go.Proofs.YtjhmfljlclajnabGreatDoor
namespace Rows

/-- THE TIED CARD OF 'wastebooktop.TopCounts'. -/
def topCountsCard : Claim7 := { stood := { row := topCountsRow, standIns := [], harness := (true, "8674f448cff11c447ddc56212999fb0b0930784a0246c1de465fe7bfcc247014"), looks := false }, kinds := [], alts := [], laidByText := true, laidKinds := [.data], laidTests := true, laidLooks := .later }
def TopCountsCardSaid : Prop := Claim7.holds Tryz.pinned (.plain (OpenSpec.ofChange topCountsSpec)) topCountsCard

/-- THE TIED CARD OF 'wastebooktop.TopRuns'. -/
def topRunsCard : Claim7 := { stood := { row := topRunsRow, standIns := [], harness := (true, "8674f448cff11c447ddc56212999fb0b0930784a0246c1de465fe7bfcc247014"), looks := false }, kinds := [], alts := [], laidByText := true, laidKinds := [.data], laidTests := true, laidLooks := .later }
def TopRunsCardSaid : Prop := Claim7.holds Tryz.pinned (.plain (OpenSpec.ofChange topRunsSpec)) topRunsCard

/-- THE SECOND FORM's CARD OF 'wastebooktop.TopCounts'. -/
def topCountsUptoCard : Claim7 := { stood := { row := topCountsUptoRow, standIns := [], harness := (true, "8674f448cff11c447ddc56212999fb0b0930784a0246c1de465fe7bfcc247014"), looks := false }, kinds := [], alts := [], laidByText := true, laidKinds := [.data], laidTests := true, laidLooks := .later }
def TopCountsUptoCardSaid : Prop := Claim7.holds Tryz.pinned (.plain (OpenSpec.upto topCountsSpec)) topCountsUptoCard

/-- THE SECOND FORM's CARD OF 'wastebooktop.TopRuns'. -/
def topRunsUptoCard : Claim7 := { stood := { row := topRunsUptoRow, standIns := [], harness := (true, "8674f448cff11c447ddc56212999fb0b0930784a0246c1de465fe7bfcc247014"), looks := false }, kinds := [], alts := [], laidByText := true, laidKinds := [.data], laidTests := true, laidLooks := .later }
def TopRunsUptoCardSaid : Prop := Claim7.holds Tryz.pinned (.plain (OpenSpec.upto topRunsSpec)) topRunsUptoCard
end Rows
end Go.Proofs.YtjhmfljlclajnabGreatDoor
