/-
  DERIVED. GIVEN WITH THE SEED: THE CARDS: each row of YtjhmfljlclajnacGreatDoorRows.lean that lists a variable, with what it lists TIED to the program's text (the seventh form; the later family's looks); each row that meets fmt, with fmt's text TOLD by the authors' own Lean function (tested against real Go, not proved from fmt's source: count such statements apart). THE CARD IS WHAT COUNTS. Prove the row's statement (the work); the ties are given (YtjhmfljlclajnacGreatDoorTie.lean); close each card by the builder's one call (the guide's Derived/Test/ToyasCard.lean, 'card_holds'). Laid BY PROGRAM, IN A SANDBOX (cutbox-door.mjs). By AI agents, Wed Nov 11 2026. No macro, syntax, notation, axiom, sorry.
-/
import Derived.Test.YtjhmfljlclajnacGreatDoorRows
import GoSem.ClaimSeven
namespace Go.Proofs.YtjhmfljlclajnacGreatDoor
namespace Rows

/-- THE TIED CARD OF 'wastebooklaw.JournalNil'. -/
def journalNilCard : Claim7 := { stood := { row := journalNilRow, standIns := [], harness := (true, "cda919c02338e8245f2b726158cd0a109d06cc6e82df63750d6b398eeaf8a2e7"), looks := false }, kinds := [], alts := [], laidByText := true, laidKinds := [.data], laidTests := true, laidLooks := .later }
def JournalNilCardSaid : Prop := Claim7.holds Tryz.pinned (.plain (OpenSpec.ofChange journalNilSpec)) journalNilCard

/-- THE TIED CARD OF 'wastebooklaw.JournalRuns'. -/
def journalRunsCard : Claim7 := { stood := { row := journalRunsRow, standIns := [], harness := (true, "cda919c02338e8245f2b726158cd0a109d06cc6e82df63750d6b398eeaf8a2e7"), looks := false }, kinds := [], alts := [], laidByText := true, laidKinds := [.data], laidTests := true, laidLooks := .later }
def JournalRunsCardSaid : Prop := Claim7.holds Tryz.pinned (.plain (OpenSpec.ofChange journalRunsSpec)) journalRunsCard

/-- THE TIED CARD OF 'wastebooklaw.JournalPlays'. -/
def journalPlaysCard : Claim7 := { stood := { row := journalPlaysRow, standIns := [], harness := (true, "cda919c02338e8245f2b726158cd0a109d06cc6e82df63750d6b398eeaf8a2e7"), looks := false }, kinds := [], alts := [], laidByText := true, laidKinds := [.data], laidTests := true, laidLooks := .later }
def JournalPlaysCardSaid : Prop := Claim7.holds Tryz.pinned (.plain (OpenSpec.ofChange journalPlaysSpec)) journalPlaysCard

/-- THE TIED CARD OF 'wastebooktop.TopWhole'. -/
def topWholeCard : Claim7 := { stood := { row := topWholeRow, standIns := [], harness := (true, "cda919c02338e8245f2b726158cd0a109d06cc6e82df63750d6b398eeaf8a2e7"), looks := false }, kinds := [], alts := [], laidByText := true, laidKinds := [.data], laidTests := true, laidLooks := .later }
def TopWholeCardSaid : Prop := Claim7.holds Tryz.pinned (.plain (OpenSpec.ofChange topWholeSpec)) topWholeCard

/-- THE TIED CARD OF 'wastebooktop.TopAnywhere'. -/
def topAnywhereCard : Claim7 := { stood := { row := topAnywhereRow, standIns := [], harness := (true, "cda919c02338e8245f2b726158cd0a109d06cc6e82df63750d6b398eeaf8a2e7"), looks := false }, kinds := [], alts := [], laidByText := true, laidKinds := [.data], laidTests := true, laidLooks := .later }
def TopAnywhereCardSaid : Prop := Claim7.holds Tryz.pinned (.plain (OpenSpec.ofChange topAnywhereSpec)) topAnywhereCard

/-- THE TIED CARD OF 'wastebooktop.TopSettles'. -/
def topSettlesCard : Claim7 := { stood := { row := topSettlesRow, standIns := [], harness := (true, "cda919c02338e8245f2b726158cd0a109d06cc6e82df63750d6b398eeaf8a2e7"), looks := false }, kinds := [], alts := [], laidByText := true, laidKinds := [.data], laidTests := true, laidLooks := .later }
def TopSettlesCardSaid : Prop := Claim7.holds Tryz.pinned (.plain (OpenSpec.ofChange topSettlesSpec)) topSettlesCard

/-- THE TIED CARD OF 'wastebooktop.TopSpace'. -/
def topSpaceCard : Claim7 := { stood := { row := topSpaceRow, standIns := [], harness := (true, "cda919c02338e8245f2b726158cd0a109d06cc6e82df63750d6b398eeaf8a2e7"), looks := false }, kinds := [], alts := [], laidByText := true, laidKinds := [.data], laidTests := true, laidLooks := .later }
def TopSpaceCardSaid : Prop := Claim7.holds Tryz.pinned (.plain (OpenSpec.ofChange topSpaceSpec)) topSpaceCard

/-- THE SECOND FORM's CARD OF 'wastebooklaw.JournalNil'. -/
def journalNilUptoCard : Claim7 := { stood := { row := journalNilUptoRow, standIns := [], harness := (true, "cda919c02338e8245f2b726158cd0a109d06cc6e82df63750d6b398eeaf8a2e7"), looks := false }, kinds := [], alts := [], laidByText := true, laidKinds := [.data], laidTests := true, laidLooks := .later }
def JournalNilUptoCardSaid : Prop := Claim7.holds Tryz.pinned (.plain (OpenSpec.upto journalNilSpec)) journalNilUptoCard

/-- THE SECOND FORM's CARD OF 'wastebooklaw.JournalRuns'. -/
def journalRunsUptoCard : Claim7 := { stood := { row := journalRunsUptoRow, standIns := [], harness := (true, "cda919c02338e8245f2b726158cd0a109d06cc6e82df63750d6b398eeaf8a2e7"), looks := false }, kinds := [], alts := [], laidByText := true, laidKinds := [.data], laidTests := true, laidLooks := .later }
def JournalRunsUptoCardSaid : Prop := Claim7.holds Tryz.pinned (.plain (OpenSpec.upto journalRunsSpec)) journalRunsUptoCard

/-- THE SECOND FORM's CARD OF 'wastebooklaw.JournalPlays'. -/
def journalPlaysUptoCard : Claim7 := { stood := { row := journalPlaysUptoRow, standIns := [], harness := (true, "cda919c02338e8245f2b726158cd0a109d06cc6e82df63750d6b398eeaf8a2e7"), looks := false }, kinds := [], alts := [], laidByText := true, laidKinds := [.data], laidTests := true, laidLooks := .later }
def JournalPlaysUptoCardSaid : Prop := Claim7.holds Tryz.pinned (.plain (OpenSpec.upto journalPlaysSpec)) journalPlaysUptoCard

/-- THE SECOND FORM's CARD OF 'wastebooktop.TopWhole'. -/
def topWholeUptoCard : Claim7 := { stood := { row := topWholeUptoRow, standIns := [], harness := (true, "cda919c02338e8245f2b726158cd0a109d06cc6e82df63750d6b398eeaf8a2e7"), looks := false }, kinds := [], alts := [], laidByText := true, laidKinds := [.data], laidTests := true, laidLooks := .later }
def TopWholeUptoCardSaid : Prop := Claim7.holds Tryz.pinned (.plain (OpenSpec.upto topWholeSpec)) topWholeUptoCard

/-- THE SECOND FORM's CARD OF 'wastebooktop.TopAnywhere'. -/
def topAnywhereUptoCard : Claim7 := { stood := { row := topAnywhereUptoRow, standIns := [], harness := (true, "cda919c02338e8245f2b726158cd0a109d06cc6e82df63750d6b398eeaf8a2e7"), looks := false }, kinds := [], alts := [], laidByText := true, laidKinds := [.data], laidTests := true, laidLooks := .later }
def TopAnywhereUptoCardSaid : Prop := Claim7.holds Tryz.pinned (.plain (OpenSpec.upto topAnywhereSpec)) topAnywhereUptoCard

/-- THE SECOND FORM's CARD OF 'wastebooktop.TopSettles'. -/
def topSettlesUptoCard : Claim7 := { stood := { row := topSettlesUptoRow, standIns := [], harness := (true, "cda919c02338e8245f2b726158cd0a109d06cc6e82df63750d6b398eeaf8a2e7"), looks := false }, kinds := [], alts := [], laidByText := true, laidKinds := [.data], laidTests := true, laidLooks := .later }
def TopSettlesUptoCardSaid : Prop := Claim7.holds Tryz.pinned (.plain (OpenSpec.upto topSettlesSpec)) topSettlesUptoCard

/-- THE SECOND FORM's CARD OF 'wastebooktop.TopSpace'. -/
def topSpaceUptoCard : Claim7 := { stood := { row := topSpaceUptoRow, standIns := [], harness := (true, "cda919c02338e8245f2b726158cd0a109d06cc6e82df63750d6b398eeaf8a2e7"), looks := false }, kinds := [], alts := [], laidByText := true, laidKinds := [.data], laidTests := true, laidLooks := .later }
def TopSpaceUptoCardSaid : Prop := Claim7.holds Tryz.pinned (.plain (OpenSpec.upto topSpaceSpec)) topSpaceUptoCard
end Rows
end Go.Proofs.YtjhmfljlclajnacGreatDoor
