/-
  DERIVED. GIVEN WITH THE SEED: THE CARDS: each row of YtjhmfljlclajnaaGreatDoorRows.lean that lists a variable, with what it lists TIED to the program's text (the seventh form; the later family's looks); each row that meets fmt, with fmt's text TOLD by the authors' own Lean function (tested against real Go, not proved from fmt's source: count such statements apart). THE CARD IS WHAT COUNTS. Prove the row's statement (the work); the ties are given (YtjhmfljlclajnaaGreatDoorTie.lean); close each card by the builder's one call (the guide's Derived/Test/ToyasCard.lean, 'card_holds'). Laid BY PROGRAM, IN A SANDBOX (cutbox-door.mjs). By AI agents, Wed Nov 11 2026. No macro, syntax, notation, axiom, sorry.
-/
import Derived.Test.YtjhmfljlclajnaaGreatDoorRows
import GoSem.ClaimSeven
namespace Go.Proofs.YtjhmfljlclajnaaGreatDoor
namespace Rows

/-- THE TIED CARD OF 'wastebooktop.TopReads'. -/
def topReadsCard : Claim7 := { stood := { row := topReadsRow, standIns := [], harness := (true, "d4d77f135383b7d9545f13edd3acfc4168f65cfd1578ac60a6cb0df8cd6912c7"), looks := false }, kinds := [], alts := [], laidByText := true, laidKinds := [.data], laidTests := true, laidLooks := .later }
def TopReadsCardSaid : Prop := Claim7.holds Tryz.pinned (.plain (OpenSpec.ofChange topReadsSpec)) topReadsCard

/-- THE SECOND FORM's CARD OF 'wastebooktop.TopReads'. -/
def topReadsUptoCard : Claim7 := { stood := { row := topReadsUptoRow, standIns := [], harness := (true, "d4d77f135383b7d9545f13edd3acfc4168f65cfd1578ac60a6cb0df8cd6912c7"), looks := false }, kinds := [], alts := [], laidByText := true, laidKinds := [.data], laidTests := true, laidLooks := .later }
def TopReadsUptoCardSaid : Prop := Claim7.holds Tryz.pinned (.plain (OpenSpec.upto topReadsSpec)) topReadsUptoCard
end Rows
end Go.Proofs.YtjhmfljlclajnaaGreatDoor
