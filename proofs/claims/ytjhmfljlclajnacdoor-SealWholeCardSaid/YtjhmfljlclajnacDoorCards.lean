/-
  DERIVED. GIVEN WITH THE SEED: THE CARDS: each row of YtjhmfljlclajnacDoorRows.lean that lists a variable, with what it lists TIED to the program's text (the seventh form; the later family's looks); each row that meets fmt, with fmt's text TOLD by the authors' own Lean function (tested against real Go, not proved from fmt's source: count such statements apart). THE CARD IS WHAT COUNTS. Prove the row's statement (the work); the ties are given (YtjhmfljlclajnacDoorTie.lean); close each card by the builder's one call (the guide's Derived/Test/ToyasCard.lean, 'card_holds'). Laid BY PROGRAM, IN A SANDBOX (cutbox-door.mjs). By AI agents, Wed Nov 11 2026. No macro, syntax, notation, axiom, sorry.
-/
import Derived.Test.YtjhmfljlclajnacDoorRows
import GoSem.ClaimSeven
namespace Go.Proofs.YtjhmfljlclajnacDoor
namespace Rows

/-- THE TIED CARD OF 'wastebookkeep.RecoverTwice'. -/
def recoverTwiceCard : Claim7 := { stood := { row := recoverTwiceRow, standIns := [], harness := (true, "ec566d7d9ef321125fe2dd6c51e9ce16739dacd0e4518b795d71a872f8f42947"), looks := false }, kinds := [], alts := [], laidByText := true, laidKinds := [.data], laidTests := true, laidLooks := .later }
def RecoverTwiceCardSaid : Prop := Claim7.holds Tryd.pinned (.plain (OpenSpec.ofChange recoverTwiceSpec)) recoverTwiceCard

/-- THE TIED CARD OF 'wastebookkeep.SealWhole'. -/
def sealWholeCard : Claim7 := { stood := { row := sealWholeRow, standIns := [], harness := (true, "ec566d7d9ef321125fe2dd6c51e9ce16739dacd0e4518b795d71a872f8f42947"), looks := false }, kinds := [], alts := [], laidByText := true, laidKinds := [.data], laidTests := true, laidLooks := .later }
def SealWholeCardSaid : Prop := Claim7.holds Tryd.pinned (.plain (OpenSpec.ofChange sealWholeSpec)) sealWholeCard

/-- THE SECOND FORM's CARD OF 'wastebookkeep.RecoverTwice'. -/
def recoverTwiceUptoCard : Claim7 := { stood := { row := recoverTwiceUptoRow, standIns := [], harness := (true, "ec566d7d9ef321125fe2dd6c51e9ce16739dacd0e4518b795d71a872f8f42947"), looks := false }, kinds := [], alts := [], laidByText := true, laidKinds := [.data], laidTests := true, laidLooks := .later }
def RecoverTwiceUptoCardSaid : Prop := Claim7.holds Tryd.pinned (.plain (OpenSpec.upto recoverTwiceSpec)) recoverTwiceUptoCard

/-- THE SECOND FORM's CARD OF 'wastebookkeep.SealWhole'. -/
def sealWholeUptoCard : Claim7 := { stood := { row := sealWholeUptoRow, standIns := [], harness := (true, "ec566d7d9ef321125fe2dd6c51e9ce16739dacd0e4518b795d71a872f8f42947"), looks := false }, kinds := [], alts := [], laidByText := true, laidKinds := [.data], laidTests := true, laidLooks := .later }
def SealWholeUptoCardSaid : Prop := Claim7.holds Tryd.pinned (.plain (OpenSpec.upto sealWholeSpec)) sealWholeUptoCard
end Rows
end Go.Proofs.YtjhmfljlclajnacDoor
