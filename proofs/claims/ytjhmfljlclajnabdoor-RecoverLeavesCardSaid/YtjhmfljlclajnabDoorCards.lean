/-
  DERIVED. GIVEN WITH THE SEED: THE CARDS: each row of YtjhmfljlclajnabDoorRows.lean that lists a variable, with what it lists TIED to the program's text (the seventh form; the later family's looks); each row that meets fmt, with fmt's text TOLD by the authors' own Lean function (tested against real Go, not proved from fmt's source: count such statements apart). THE CARD IS WHAT COUNTS. Prove the row's statement (the work); the ties are given (YtjhmfljlclajnabDoorTie.lean); close each card by the builder's one call (the guide's Derived/Test/ToyasCard.lean, 'card_holds'). Laid BY PROGRAM, IN A SANDBOX (cutbox-door.mjs). By AI agents, Wed Nov 11 2026. No macro, syntax, notation, axiom, sorry.
-/
import Derived.Test.YtjhmfljlclajnabDoorRows
import GoSem.ClaimSeven
namespace Go.Proofs.YtjhmfljlclajnabDoor
namespace Rows

/-- THE TIED CARD OF 'wastebooklaw.SealCommits'. -/
def sealCommitsCard : Claim7 := { stood := { row := sealCommitsRow, standIns := [], harness := (true, "b60db87e3400538bdaa74c2ac3e45bba7bbc92f7f164f16c40f30831cd020c9f"), looks := false }, kinds := [], alts := [], laidByText := true, laidKinds := [.data], laidTests := true, laidLooks := .later }
def SealCommitsCardSaid : Prop := Claim7.holds Tryd.pinned (.plain (OpenSpec.ofChange sealCommitsSpec)) sealCommitsCard

/-- THE TIED CARD OF 'wastebookkeep.SealNewest'. -/
def sealNewestCard : Claim7 := { stood := { row := sealNewestRow, standIns := [], harness := (true, "b60db87e3400538bdaa74c2ac3e45bba7bbc92f7f164f16c40f30831cd020c9f"), looks := false }, kinds := [], alts := [], laidByText := true, laidKinds := [.data], laidTests := true, laidLooks := .later }
def SealNewestCardSaid : Prop := Claim7.holds Tryd.pinned (.plain (OpenSpec.ofChange sealNewestSpec)) sealNewestCard

/-- THE TIED CARD OF 'wastebooklaw.SealChecks'. -/
def sealChecksCard : Claim7 := { stood := { row := sealChecksRow, standIns := [], harness := (true, "b60db87e3400538bdaa74c2ac3e45bba7bbc92f7f164f16c40f30831cd020c9f"), looks := false }, kinds := [], alts := [], laidByText := true, laidKinds := [.data], laidTests := true, laidLooks := .later }
def SealChecksCardSaid : Prop := Claim7.holds Tryd.pinned (.plain (OpenSpec.ofChange sealChecksSpec)) sealChecksCard

/-- THE TIED CARD OF 'wastebookkeep.RecoverLeaves'. -/
def recoverLeavesCard : Claim7 := { stood := { row := recoverLeavesRow, standIns := [], harness := (true, "b60db87e3400538bdaa74c2ac3e45bba7bbc92f7f164f16c40f30831cd020c9f"), looks := false }, kinds := [], alts := [], laidByText := true, laidKinds := [.data], laidTests := true, laidLooks := .later }
def RecoverLeavesCardSaid : Prop := Claim7.holds Tryd.pinned (.plain (OpenSpec.ofChange recoverLeavesSpec)) recoverLeavesCard

/-- THE SECOND FORM's CARD OF 'wastebooklaw.SealCommits'. -/
def sealCommitsUptoCard : Claim7 := { stood := { row := sealCommitsUptoRow, standIns := [], harness := (true, "b60db87e3400538bdaa74c2ac3e45bba7bbc92f7f164f16c40f30831cd020c9f"), looks := false }, kinds := [], alts := [], laidByText := true, laidKinds := [.data], laidTests := true, laidLooks := .later }
def SealCommitsUptoCardSaid : Prop := Claim7.holds Tryd.pinned (.plain (OpenSpec.upto sealCommitsSpec)) sealCommitsUptoCard

/-- THE SECOND FORM's CARD OF 'wastebookkeep.SealNewest'. -/
def sealNewestUptoCard : Claim7 := { stood := { row := sealNewestUptoRow, standIns := [], harness := (true, "b60db87e3400538bdaa74c2ac3e45bba7bbc92f7f164f16c40f30831cd020c9f"), looks := false }, kinds := [], alts := [], laidByText := true, laidKinds := [.data], laidTests := true, laidLooks := .later }
def SealNewestUptoCardSaid : Prop := Claim7.holds Tryd.pinned (.plain (OpenSpec.upto sealNewestSpec)) sealNewestUptoCard

/-- THE SECOND FORM's CARD OF 'wastebooklaw.SealChecks'. -/
def sealChecksUptoCard : Claim7 := { stood := { row := sealChecksUptoRow, standIns := [], harness := (true, "b60db87e3400538bdaa74c2ac3e45bba7bbc92f7f164f16c40f30831cd020c9f"), looks := false }, kinds := [], alts := [], laidByText := true, laidKinds := [.data], laidTests := true, laidLooks := .later }
def SealChecksUptoCardSaid : Prop := Claim7.holds Tryd.pinned (.plain (OpenSpec.upto sealChecksSpec)) sealChecksUptoCard

/-- THE SECOND FORM's CARD OF 'wastebookkeep.RecoverLeaves'. -/
def recoverLeavesUptoCard : Claim7 := { stood := { row := recoverLeavesUptoRow, standIns := [], harness := (true, "b60db87e3400538bdaa74c2ac3e45bba7bbc92f7f164f16c40f30831cd020c9f"), looks := false }, kinds := [], alts := [], laidByText := true, laidKinds := [.data], laidTests := true, laidLooks := .later }
def RecoverLeavesUptoCardSaid : Prop := Claim7.holds Tryd.pinned (.plain (OpenSpec.upto recoverLeavesSpec)) recoverLeavesUptoCard
end Rows
end Go.Proofs.YtjhmfljlclajnabDoor
