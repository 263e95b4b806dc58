/-
  NARROWER THAN 'FOR EVERY INPUT', by the rows' own cells (each row's printed sentence says how): JournalRuns: laid · JournalPlays: laid.
  DERIVED. THE GIVEN ROWS OF THIS SEAT. 2 by the template 'for every input the law returns true; each argument reads behind the call as it read before'; 0 by the template 'total and deterministic' (their statements: YtlecmdajpfkaeaaGreatDoorTotals.lean).
  GIVEN WITH THE SEED: the statements are not yours to turn. If you find one false, say at which input.
  Laid BY PROGRAM, IN A SANDBOX (cutbox-rows.mjs): the forced cells as the released guide's own fill.sh prints them over the translation e0d76af24356117e… (all of the seat's roots in one cut). By AI agents, Wed Nov 11 2026. No macro, syntax, notation, axiom, sorry.
-/
import Derived.Test.YtlecmdajpfkaeaaGreatDoorChecked
import GoSem.Claim
import GoSem.ClaimJoined
import GoSem.ClaimMapViews
import Derived.JoinedTies
import Derived.KernelRfl
namespace Go.Proofs.YtlecmdajpfkaeaaGreatDoor
/- THE CELL 'sum', in the pinned program and in every row, IS THE sha256 OF THE DUMP (.gsa) THAT YtlecmdajpfkaeaaGreatDoorProg.lean LOADS. Nothing in Lean hashes anything: it is a label: what it is worth is what the hold of that sum in a sandbox is worth. -/
noncomputable def Tryz.pinned : Pinned := { name := "ytlecmdajpfkaeaagreatdoor", sum := "e0d76af24356117e997ea2304cf9fde8cdca21024c4ecb903c28e5adf808bd73", checked := Tryz.checked }
namespace Rows
def none {H : Type} : Left H := { results := [], args := [] }

/- WHAT THE LISTED PACKAGE-LEVEL VARIABLES READ AS WHEN THE CALL BEGINS. Each datum BY PROGRAM (the guide's laid-datum.mjs) off the statement by which the dump's own 'gosem.cut.vars' lays the variable. In a bare row this is a premise. The card (YtlecmdajpfkaeaaGreatDoorCards.lean) ties it to the program's text. -/
def laid_wastebook_seal_flush {H : Type} : DataW H := .agg [.lit (.int .i64 2), .lit (.int .i64 0), .lit (.string [])]

/-- 'wastebooklaw.JournalRuns': WHATEVER THE INPUT: true; the input reads as it did. -/
def journalRunsSpec : ChangeSpec := { name := "journalRuns", fn := fun _ => fun
  | [d] => { results := [.lit (.bool true)], args := [d] }
  | _ => none }
def journalRunsRow : OpenClaim := { program := "ytlecmdajpfkaeaagreatdoor", sum := "e0d76af24356117e997ea2304cf9fde8cdca21024c4ecb903c28e5adf808bd73", func := "wastebook/wastebooklaw.JournalRuns", spec := "journalRuns", inPlace := ["internal/abi.NoEscape", "internal/bytealg.MakeNoZero", "slices.overlaps[wastebook/api.Copy]", "slices.overlaps[int]"], unfollowed := true, recurses := true, named := ["wastebook/seal.flush"], apart := false, laid := [("wastebook/seal.flush", laid_wastebook_seal_flush)] }
def JournalRunsSaid : Prop := journalRunsRow.holds Tryz.pinned (OpenSpec.ofChange journalRunsSpec)

/-- ITS FALSE NEIGHBOUR: 'it returns false'. Refute it at one input. -/
def journalRunsWrong : ChangeSpec := { name := "journalRuns", fn := fun _ => fun
  | [d] => { results := [.lit (.bool false)], args := [d] }
  | _ => none }
def JournalRunsWrongFalsely : Prop := journalRunsRow.holds Tryz.pinned (OpenSpec.ofChange journalRunsWrong)

/-- 'wastebooklaw.JournalPlays': WHATEVER THE INPUT: true; the input reads as it did. -/
def journalPlaysSpec : ChangeSpec := { name := "journalPlays", fn := fun _ => fun
  | [d] => { results := [.lit (.bool true)], args := [d] }
  | _ => none }
def journalPlaysRow : OpenClaim := { program := "ytlecmdajpfkaeaagreatdoor", sum := "e0d76af24356117e997ea2304cf9fde8cdca21024c4ecb903c28e5adf808bd73", func := "wastebook/wastebooklaw.JournalPlays", spec := "journalPlays", inPlace := ["internal/abi.NoEscape", "internal/bytealg.MakeNoZero", "slices.overlaps[wastebook/api.Copy]", "slices.overlaps[int]"], unfollowed := true, recurses := true, named := ["wastebook/seal.flush"], apart := false, laid := [("wastebook/seal.flush", laid_wastebook_seal_flush)] }
def JournalPlaysSaid : Prop := journalPlaysRow.holds Tryz.pinned (OpenSpec.ofChange journalPlaysSpec)

/-- ITS FALSE NEIGHBOUR: 'it returns false'. Refute it at one input. -/
def journalPlaysWrong : ChangeSpec := { name := "journalPlays", fn := fun _ => fun
  | [d] => { results := [.lit (.bool false)], args := [d] }
  | _ => none }
def JournalPlaysWrongFalsely : Prop := journalPlaysRow.holds Tryz.pinned (OpenSpec.ofChange journalPlaysWrong)

/- THE SECOND FORM. 'bulk': how many values and letters a reading holds, each counted each time it is reached (what is shared counts as often as it is met; a slice's spare places count too). A statement '..UptoSaid' is the law's where the arguments, and the package variables that the reading takes, are together of bulk at most 1048576: NARROWER than '..Said'. Prove '..Said' where nothing that the law and all that it calls make is longer than what came in: it says more and counts as full. Else prove '..UptoSaid'. A law counts once. -/
mutual
def uptoBulk {H : Type} : DataW H → Nat
  | .lit (.string bytes) => bytes.length + 1
  | .lit _ => 1
  | .nil => 1
  | .ptr d => uptoBulk d + 1
  | .slice elems spare => uptoBulkAll elems + uptoBulkAll spare + 1
  | .agg parts => uptoBulkAll parts + 1
  | .iface _ d => uptoBulk d + 1
  | .map entries => uptoBulkEntries entries + 1
  | .held _ => 1
def uptoBulkAll {H : Type} : List (DataW H) → Nat
  | [] => 0
  | d :: r => uptoBulk d + uptoBulkAll r
def uptoBulkEntries {H : Type} : List (Lit × DataW H) → Nat
  | [] => 0
  | x :: r => uptoBulkEntry x + uptoBulkEntries r
def uptoBulkEntry {H : Type} : Lit × DataW H → Nat
  | (.string bytes, d) => bytes.length + uptoBulk d + 1
  | (_, d) => uptoBulk d + 1
 end
def uptoSmall : (H : Type) → List (DataW H) → Bool := fun _ ds => decide (uptoBulkAll ds ≤ 1048576)
def OpenSpec.upto (s : _root_.Go.ChangeSpec) : _root_.Go.OpenSpec := { _root_.Go.OpenSpec.ofChange s with cond := some uptoSmall }

/-- 'wastebooklaw.JournalRuns', WHERE WHAT IT READS IS OF BULK AT MOST 1048576: true; the input reads as it did. -/
def journalRunsUptoRow : OpenClaim := { program := "ytlecmdajpfkaeaagreatdoor", sum := "e0d76af24356117e997ea2304cf9fde8cdca21024c4ecb903c28e5adf808bd73", func := "wastebook/wastebooklaw.JournalRuns", spec := "journalRuns", inPlace := ["internal/abi.NoEscape", "internal/bytealg.MakeNoZero", "slices.overlaps[wastebook/api.Copy]", "slices.overlaps[int]"], unfollowed := true, recurses := true, named := ["wastebook/seal.flush"], apart := false, laid := [("wastebook/seal.flush", laid_wastebook_seal_flush)], narrowed := true }
def JournalRunsUptoSaid : Prop := journalRunsUptoRow.holds Tryz.pinned (OpenSpec.upto journalRunsSpec)

/-- 'wastebooklaw.JournalPlays', WHERE WHAT IT READS IS OF BULK AT MOST 1048576: true; the input reads as it did. -/
def journalPlaysUptoRow : OpenClaim := { program := "ytlecmdajpfkaeaagreatdoor", sum := "e0d76af24356117e997ea2304cf9fde8cdca21024c4ecb903c28e5adf808bd73", func := "wastebook/wastebooklaw.JournalPlays", spec := "journalPlays", inPlace := ["internal/abi.NoEscape", "internal/bytealg.MakeNoZero", "slices.overlaps[wastebook/api.Copy]", "slices.overlaps[int]"], unfollowed := true, recurses := true, named := ["wastebook/seal.flush"], apart := false, laid := [("wastebook/seal.flush", laid_wastebook_seal_flush)], narrowed := true }
def JournalPlaysUptoSaid : Prop := journalPlaysUptoRow.holds Tryz.pinned (OpenSpec.upto journalPlaysSpec)

end Rows
end Go.Proofs.YtlecmdajpfkaeaaGreatDoor
