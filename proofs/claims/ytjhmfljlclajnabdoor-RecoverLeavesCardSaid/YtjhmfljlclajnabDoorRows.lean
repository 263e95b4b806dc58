/-
  NARROWER THAN 'FOR EVERY INPUT', by the rows' own cells (each row's printed sentence says how): SealCommits: laid · SealNewest: laid · SealChecks: laid · RecoverLeaves: laid.
  DERIVED. THE GIVEN ROWS OF THIS SEAT. 4 by the template 'for every input the law returns true; each argument reads behind the call as it read before'; 0 by the template 'total and deterministic' (their statements: YtjhmfljlclajnabDoorTotals.lean).
  GIVEN WITH THE SEED: the statements are not yours to turn. If you find one false, say at which input.
  Laid BY PROGRAM, IN A SANDBOX (cutbox-rows.mjs): the forced cells as the released guide's own fill.sh prints them over the translation 1342d2306bc9d99f… (all of the seat's roots in one cut). By AI agents, Wed Nov 11 2026. No macro, syntax, notation, axiom, sorry.
-/
import Derived.Test.YtjhmfljlclajnabDoorChecked
import GoSem.Claim
import GoSem.ClaimJoined
import GoSem.ClaimMapViews
import Derived.JoinedTies
import Derived.KernelRfl
namespace Go.Proofs.YtjhmfljlclajnabDoor
/- THE CELL 'sum', in the pinned program and in every row, IS THE sha256 OF THE DUMP (.gsa) THAT YtjhmfljlclajnabDoorProg.lean LOADS. Nothing in Lean hashes anything: it is a label: what it is worth is what the hold of that sum in a sandbox is worth. -/
noncomputable def Tryd.pinned : Pinned := { name := "ytjhmfljlclajnabdoor", sum := "1342d2306bc9d99f438ea66b17fe4b324641b081dfc343fb6bae04230b6878e7", checked := Tryd.checked }
namespace Rows
def none {H : Type} : Left H := { results := [], args := [] }

/- WHAT THE LISTED PACKAGE-LEVEL VARIABLES READ AS WHEN THE CALL BEGINS. Each datum BY PROGRAM (the guide's laid-datum.mjs) off the statement by which the dump's own 'gosem.cut.vars' lays the variable. In a bare row this is a premise. The card (YtjhmfljlclajnabDoorCards.lean) ties it to the program's text. -/
def laid_wastebook_seal_flush {H : Type} : DataW H := .agg [.lit (.int .i64 2), .lit (.int .i64 0), .lit (.string [])]

/-- 'wastebooklaw.SealCommits': WHATEVER THE INPUT: true; the input reads as it did. -/
def sealCommitsSpec : ChangeSpec := { name := "sealCommits", fn := fun _ => fun
  | [d1, d2] => { results := [.lit (.bool true)], args := [d1, d2] }
  | _ => none }
def sealCommitsRow : OpenClaim := { program := "ytjhmfljlclajnabdoor", sum := "1342d2306bc9d99f438ea66b17fe4b324641b081dfc343fb6bae04230b6878e7", func := "wastebook/wastebooklaw.SealCommits", spec := "sealCommits", inPlace := ["internal/abi.NoEscape", "internal/bytealg.MakeNoZero"], unfollowed := true, recurses := true, named := ["wastebook/seal.flush"], apart := false, laid := [("wastebook/seal.flush", laid_wastebook_seal_flush)] }
def SealCommitsSaid : Prop := sealCommitsRow.holds Tryd.pinned (OpenSpec.ofChange sealCommitsSpec)

/-- ITS FALSE NEIGHBOUR: 'it returns false'. Refute it at one input. -/
def sealCommitsWrong : ChangeSpec := { name := "sealCommits", fn := fun _ => fun
  | [d1, d2] => { results := [.lit (.bool false)], args := [d1, d2] }
  | _ => none }
def SealCommitsWrongFalsely : Prop := sealCommitsRow.holds Tryd.pinned (OpenSpec.ofChange sealCommitsWrong)

/-- 'wastebookkeep.SealNewest': WHATEVER THE INPUT: true; the input reads as it did. -/
def sealNewestSpec : ChangeSpec := { name := "sealNewest", fn := fun _ => fun
  | [d1, d2] => { results := [.lit (.bool true)], args := [d1, d2] }
  | _ => none }
def sealNewestRow : OpenClaim := { program := "ytjhmfljlclajnabdoor", sum := "1342d2306bc9d99f438ea66b17fe4b324641b081dfc343fb6bae04230b6878e7", func := "wastebook/wastebookkeep.SealNewest", spec := "sealNewest", inPlace := ["internal/abi.NoEscape", "internal/bytealg.MakeNoZero"], unfollowed := true, recurses := true, named := ["wastebook/seal.flush"], apart := false, laid := [("wastebook/seal.flush", laid_wastebook_seal_flush)] }
def SealNewestSaid : Prop := sealNewestRow.holds Tryd.pinned (OpenSpec.ofChange sealNewestSpec)

/-- ITS FALSE NEIGHBOUR: 'it returns false'. Refute it at one input. -/
def sealNewestWrong : ChangeSpec := { name := "sealNewest", fn := fun _ => fun
  | [d1, d2] => { results := [.lit (.bool false)], args := [d1, d2] }
  | _ => none }
def SealNewestWrongFalsely : Prop := sealNewestRow.holds Tryd.pinned (OpenSpec.ofChange sealNewestWrong)

/-- 'wastebooklaw.SealChecks': WHATEVER THE INPUT: true; the input reads as it did. -/
def sealChecksSpec : ChangeSpec := { name := "sealChecks", fn := fun _ => fun
  | [d1, d2, d3, d4] => { results := [.lit (.bool true)], args := [d1, d2, d3, d4] }
  | _ => none }
def sealChecksRow : OpenClaim := { program := "ytjhmfljlclajnabdoor", sum := "1342d2306bc9d99f438ea66b17fe4b324641b081dfc343fb6bae04230b6878e7", func := "wastebook/wastebooklaw.SealChecks", spec := "sealChecks", inPlace := ["internal/abi.NoEscape", "internal/bytealg.MakeNoZero"], unfollowed := true, recurses := true, named := ["wastebook/seal.flush"], apart := false, laid := [("wastebook/seal.flush", laid_wastebook_seal_flush)] }
def SealChecksSaid : Prop := sealChecksRow.holds Tryd.pinned (OpenSpec.ofChange sealChecksSpec)

/-- ITS FALSE NEIGHBOUR: 'it returns false'. Refute it at one input. -/
def sealChecksWrong : ChangeSpec := { name := "sealChecks", fn := fun _ => fun
  | [d1, d2, d3, d4] => { results := [.lit (.bool false)], args := [d1, d2, d3, d4] }
  | _ => none }
def SealChecksWrongFalsely : Prop := sealChecksRow.holds Tryd.pinned (OpenSpec.ofChange sealChecksWrong)

/-- 'wastebookkeep.RecoverLeaves': WHATEVER THE INPUT: true; the input reads as it did. -/
def recoverLeavesSpec : ChangeSpec := { name := "recoverLeaves", fn := fun _ => fun
  | [d1, d2] => { results := [.lit (.bool true)], args := [d1, d2] }
  | _ => none }
def recoverLeavesRow : OpenClaim := { program := "ytjhmfljlclajnabdoor", sum := "1342d2306bc9d99f438ea66b17fe4b324641b081dfc343fb6bae04230b6878e7", func := "wastebook/wastebookkeep.RecoverLeaves", spec := "recoverLeaves", inPlace := ["internal/abi.NoEscape", "internal/bytealg.MakeNoZero"], unfollowed := true, recurses := true, named := ["wastebook/seal.flush"], apart := false, laid := [("wastebook/seal.flush", laid_wastebook_seal_flush)] }
def RecoverLeavesSaid : Prop := recoverLeavesRow.holds Tryd.pinned (OpenSpec.ofChange recoverLeavesSpec)

/-- ITS FALSE NEIGHBOUR: 'it returns false'. Refute it at one input. -/
def recoverLeavesWrong : ChangeSpec := { name := "recoverLeaves", fn := fun _ => fun
  | [d1, d2] => { results := [.lit (.bool false)], args := [d1, d2] }
  | _ => none }
def RecoverLeavesWrongFalsely : Prop := recoverLeavesRow.holds Tryd.pinned (OpenSpec.ofChange recoverLeavesWrong)

/- THE SECOND FORM. 'bulk': how many values and letters a reading holds, each counted each time it is reached (what is shared counts as often as it is met; a slice's spare places count too). A statement '..UptoSaid' is the law's where the arguments, and the package variables that the reading takes, are together of bulk at most 1048576: NARROWER than '..Said'. Prove '..Said' where nothing that the law and all that it calls make is longer than what came in: it says more and counts as full. Else prove '..UptoSaid'. A law counts once. -/
mutual
def uptoBulk {H : Type} : DataW H → Nat
  | .lit (.string bytes) => bytes.length + 1
  | .lit _ => 1
  | .nil => 1
  | .ptr d => uptoBulk d + 1
  | .slice elems spare => uptoBulkAll elems + uptoBulkAll spare + 1
  | .agg parts => uptoBulkAll parts + 1
  | .iface _ d => uptoBulk d + 1
  | .map entries => uptoBulkEntries entries + 1
  | .held _ => 1
def uptoBulkAll {H : Type} : List (DataW H) → Nat
  | [] => 0
  | d :: r => uptoBulk d + uptoBulkAll r
def uptoBulkEntries {H : Type} : List (Lit × DataW H) → Nat
  | [] => 0
  | x :: r => uptoBulkEntry x + uptoBulkEntries r
def uptoBulkEntry {H : Type} : Lit × DataW H → Nat
  | (.string bytes, d) => bytes.length + uptoBulk d + 1
  | (_, d) => uptoBulk d + 1
 end
def uptoSmall : (H : Type) → List (DataW H) → Bool := fun _ ds => decide (uptoBulkAll ds ≤ 1048576)
def OpenSpec.upto (s : _root_.Go.ChangeSpec) : _root_.Go.OpenSpec := { _root_.Go.OpenSpec.ofChange s with cond := some uptoSmall }

/-- 'wastebooklaw.SealCommits', WHERE WHAT IT READS IS OF BULK AT MOST 1048576: true; the input reads as it did. -/
def sealCommitsUptoRow : OpenClaim := { program := "ytjhmfljlclajnabdoor", sum := "1342d2306bc9d99f438ea66b17fe4b324641b081dfc343fb6bae04230b6878e7", func := "wastebook/wastebooklaw.SealCommits", spec := "sealCommits", inPlace := ["internal/abi.NoEscape", "internal/bytealg.MakeNoZero"], unfollowed := true, recurses := true, named := ["wastebook/seal.flush"], apart := false, laid := [("wastebook/seal.flush", laid_wastebook_seal_flush)], narrowed := true }
def SealCommitsUptoSaid : Prop := sealCommitsUptoRow.holds Tryd.pinned (OpenSpec.upto sealCommitsSpec)

/-- 'wastebookkeep.SealNewest', WHERE WHAT IT READS IS OF BULK AT MOST 1048576: true; the input reads as it did. -/
def sealNewestUptoRow : OpenClaim := { program := "ytjhmfljlclajnabdoor", sum := "1342d2306bc9d99f438ea66b17fe4b324641b081dfc343fb6bae04230b6878e7", func := "wastebook/wastebookkeep.SealNewest", spec := "sealNewest", inPlace := ["internal/abi.NoEscape", "internal/bytealg.MakeNoZero"], unfollowed := true, recurses := true, named := ["wastebook/seal.flush"], apart := false, laid := [("wastebook/seal.flush", laid_wastebook_seal_flush)], narrowed := true }
def SealNewestUptoSaid : Prop := sealNewestUptoRow.holds Tryd.pinned (OpenSpec.upto sealNewestSpec)

/-- 'wastebooklaw.SealChecks', WHERE WHAT IT READS IS OF BULK AT MOST 1048576: true; the input reads as it did. -/
def sealChecksUptoRow : OpenClaim := { program := "ytjhmfljlclajnabdoor", sum := "1342d2306bc9d99f438ea66b17fe4b324641b081dfc343fb6bae04230b6878e7", func := "wastebook/wastebooklaw.SealChecks", spec := "sealChecks", inPlace := ["internal/abi.NoEscape", "internal/bytealg.MakeNoZero"], unfollowed := true, recurses := true, named := ["wastebook/seal.flush"], apart := false, laid := [("wastebook/seal.flush", laid_wastebook_seal_flush)], narrowed := true }
def SealChecksUptoSaid : Prop := sealChecksUptoRow.holds Tryd.pinned (OpenSpec.upto sealChecksSpec)

/-- 'wastebookkeep.RecoverLeaves', WHERE WHAT IT READS IS OF BULK AT MOST 1048576: true; the input reads as it did. -/
def recoverLeavesUptoRow : OpenClaim := { program := "ytjhmfljlclajnabdoor", sum := "1342d2306bc9d99f438ea66b17fe4b324641b081dfc343fb6bae04230b6878e7", func := "wastebook/wastebookkeep.RecoverLeaves", spec := "recoverLeaves", inPlace := ["internal/abi.NoEscape", "internal/bytealg.MakeNoZero"], unfollowed := true, recurses := true, named := ["wastebook/seal.flush"], apart := false, laid := [("wastebook/seal.flush", laid_wastebook_seal_flush)], narrowed := true }
def RecoverLeavesUptoSaid : Prop := recoverLeavesUptoRow.holds Tryd.pinned (OpenSpec.upto recoverLeavesSpec)

end Rows
end Go.Proofs.YtjhmfljlclajnabDoor
