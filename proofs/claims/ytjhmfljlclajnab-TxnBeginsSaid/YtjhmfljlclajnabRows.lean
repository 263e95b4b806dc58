/-
  No cell of these rows narrows 'for every input' (looked for: loops, veiled, ifaces, maps, wideKeys, modest, calm, conditions, laid).
  DERIVED. THE GIVEN ROWS OF THIS SEAT. 6 by the template 'for every input the law returns true; each argument reads behind the call as it read before'; 0 by the template 'total and deterministic' (their statements: YtjhmfljlclajnabTotals.lean).
  GIVEN WITH THE SEED: the statements are not yours to turn. If you find one false, say at which input.
  Laid BY PROGRAM, IN A SANDBOX (cutbox-rows.mjs): the forced cells as the released guide's own fill.sh prints them over the translation 792646b3c86d07de… (all of the seat's roots in one cut). By AI agents, Wed Nov 11 2026. No macro, syntax, notation, axiom, sorry.
-/
import Derived.Test.YtjhmfljlclajnabChecked
import GoSem.Claim
import GoSem.ClaimJoined
import GoSem.ClaimMapViews
import Derived.JoinedTies
import Derived.KernelRfl
namespace Go.Proofs.Ytjhmfljlclajnab
/- THE CELL 'sum', in the pinned program and in every row, IS THE sha256 OF THE DUMP (.gsa) THAT YtjhmfljlclajnabProg.lean LOADS. Nothing in Lean hashes anything: it is a label: what it is worth is what the hold of that sum in a sandbox is worth. -/
noncomputable def Try.pinned : Pinned := { name := "ytjhmfljlclajnab", sum := "792646b3c86d07de099a85a651536944b0ad0a68c0d1f332178adb4ccbf0c803", checked := Try.checked }
namespace Rows
def none {H : Type} : Left H := { results := [], args := [] }

/-- 'wastebooklaw.DiskCrashes': WHATEVER THE INPUT: true; the input reads as it did. -/
def diskCrashesSpec : ChangeSpec := { name := "diskCrashes", fn := fun _ => fun
  | [d1, d2] => { results := [.lit (.bool true)], args := [d1, d2] }
  | _ => none }
def diskCrashesRow : OpenClaim := { program := "ytjhmfljlclajnab", sum := "792646b3c86d07de099a85a651536944b0ad0a68c0d1f332178adb4ccbf0c803", func := "wastebook/wastebooklaw.DiskCrashes", spec := "diskCrashes", inPlace := ["internal/abi.NoEscape", "internal/bytealg.MakeNoZero"], unfollowed := true, recurses := true, apart := false }
def DiskCrashesSaid : Prop := diskCrashesRow.holds Try.pinned (OpenSpec.ofChange diskCrashesSpec)

/-- ITS FALSE NEIGHBOUR: 'it returns false'. Refute it at one input. -/
def diskCrashesWrong : ChangeSpec := { name := "diskCrashes", fn := fun _ => fun
  | [d1, d2] => { results := [.lit (.bool false)], args := [d1, d2] }
  | _ => none }
def DiskCrashesWrongFalsely : Prop := diskCrashesRow.holds Try.pinned (OpenSpec.ofChange diskCrashesWrong)

/-- 'wastebookkeep.FormHides': WHATEVER THE INPUT: true; the input reads as it did. -/
def formHidesSpec : ChangeSpec := { name := "formHides", fn := fun _ => fun
  | [d] => { results := [.lit (.bool true)], args := [d] }
  | _ => none }
def formHidesRow : OpenClaim := { program := "ytjhmfljlclajnab", sum := "792646b3c86d07de099a85a651536944b0ad0a68c0d1f332178adb4ccbf0c803", func := "wastebook/wastebookkeep.FormHides", spec := "formHides", inPlace := ["internal/abi.NoEscape", "internal/bytealg.MakeNoZero"], apart := false }
def FormHidesSaid : Prop := formHidesRow.holds Try.pinned (OpenSpec.ofChange formHidesSpec)

/-- ITS FALSE NEIGHBOUR: 'it returns false'. Refute it at one input. -/
def formHidesWrong : ChangeSpec := { name := "formHides", fn := fun _ => fun
  | [d] => { results := [.lit (.bool false)], args := [d] }
  | _ => none }
def FormHidesWrongFalsely : Prop := formHidesRow.holds Try.pinned (OpenSpec.ofChange formHidesWrong)

/-- 'wastebookkeep.DiskKeeps': WHATEVER THE INPUT: true; the input reads as it did. -/
def diskKeepsSpec : ChangeSpec := { name := "diskKeeps", fn := fun _ => fun
  | [d1, d2] => { results := [.lit (.bool true)], args := [d1, d2] }
  | _ => none }
def diskKeepsRow : OpenClaim := { program := "ytjhmfljlclajnab", sum := "792646b3c86d07de099a85a651536944b0ad0a68c0d1f332178adb4ccbf0c803", func := "wastebook/wastebookkeep.DiskKeeps", spec := "diskKeeps", inPlace := ["internal/abi.NoEscape", "internal/bytealg.MakeNoZero"], unfollowed := true, recurses := true, apart := false }
def DiskKeepsSaid : Prop := diskKeepsRow.holds Try.pinned (OpenSpec.ofChange diskKeepsSpec)

/-- ITS FALSE NEIGHBOUR: 'it returns false'. Refute it at one input. -/
def diskKeepsWrong : ChangeSpec := { name := "diskKeeps", fn := fun _ => fun
  | [d1, d2] => { results := [.lit (.bool false)], args := [d1, d2] }
  | _ => none }
def DiskKeepsWrongFalsely : Prop := diskKeepsRow.holds Try.pinned (OpenSpec.ofChange diskKeepsWrong)

/-- 'wastebooklaw.RecoverScans': WHATEVER THE INPUT: true; the input reads as it did. -/
def recoverScansSpec : ChangeSpec := { name := "recoverScans", fn := fun _ => fun
  | [d] => { results := [.lit (.bool true)], args := [d] }
  | _ => none }
def recoverScansRow : OpenClaim := { program := "ytjhmfljlclajnab", sum := "792646b3c86d07de099a85a651536944b0ad0a68c0d1f332178adb4ccbf0c803", func := "wastebook/wastebooklaw.RecoverScans", spec := "recoverScans", inPlace := ["internal/abi.NoEscape", "internal/bytealg.MakeNoZero"], unfollowed := true, recurses := true, apart := false }
def RecoverScansSaid : Prop := recoverScansRow.holds Try.pinned (OpenSpec.ofChange recoverScansSpec)

/-- ITS FALSE NEIGHBOUR: 'it returns false'. Refute it at one input. -/
def recoverScansWrong : ChangeSpec := { name := "recoverScans", fn := fun _ => fun
  | [d] => { results := [.lit (.bool false)], args := [d] }
  | _ => none }
def RecoverScansWrongFalsely : Prop := recoverScansRow.holds Try.pinned (OpenSpec.ofChange recoverScansWrong)

/-- 'wastebooklaw.RecoverReplays': WHATEVER THE INPUT: true; the input reads as it did. -/
def recoverReplaysSpec : ChangeSpec := { name := "recoverReplays", fn := fun _ => fun
  | [d] => { results := [.lit (.bool true)], args := [d] }
  | _ => none }
def recoverReplaysRow : OpenClaim := { program := "ytjhmfljlclajnab", sum := "792646b3c86d07de099a85a651536944b0ad0a68c0d1f332178adb4ccbf0c803", func := "wastebook/wastebooklaw.RecoverReplays", spec := "recoverReplays", inPlace := ["internal/abi.NoEscape", "internal/bytealg.MakeNoZero"], unfollowed := true, recurses := true, apart := false }
def RecoverReplaysSaid : Prop := recoverReplaysRow.holds Try.pinned (OpenSpec.ofChange recoverReplaysSpec)

/-- ITS FALSE NEIGHBOUR: 'it returns false'. Refute it at one input. -/
def recoverReplaysWrong : ChangeSpec := { name := "recoverReplays", fn := fun _ => fun
  | [d] => { results := [.lit (.bool false)], args := [d] }
  | _ => none }
def RecoverReplaysWrongFalsely : Prop := recoverReplaysRow.holds Try.pinned (OpenSpec.ofChange recoverReplaysWrong)

/-- 'wastebooklaw.TxnBegins': WHATEVER THE INPUT: true; the input reads as it did. -/
def txnBeginsSpec : ChangeSpec := { name := "txnBegins", fn := fun _ => fun
  | [d1, d2, d3, d4] => { results := [.lit (.bool true)], args := [d1, d2, d3, d4] }
  | _ => none }
def txnBeginsRow : OpenClaim := { program := "ytjhmfljlclajnab", sum := "792646b3c86d07de099a85a651536944b0ad0a68c0d1f332178adb4ccbf0c803", func := "wastebook/wastebooklaw.TxnBegins", spec := "txnBegins", inPlace := ["internal/abi.NoEscape", "internal/bytealg.MakeNoZero", "slices.overlaps[wastebook/api.Copy]"], unfollowed := true, recurses := true, apart := false }
def TxnBeginsSaid : Prop := txnBeginsRow.holds Try.pinned (OpenSpec.ofChange txnBeginsSpec)

/-- ITS FALSE NEIGHBOUR: 'it returns false'. Refute it at one input. -/
def txnBeginsWrong : ChangeSpec := { name := "txnBegins", fn := fun _ => fun
  | [d1, d2, d3, d4] => { results := [.lit (.bool false)], args := [d1, d2, d3, d4] }
  | _ => none }
def TxnBeginsWrongFalsely : Prop := txnBeginsRow.holds Try.pinned (OpenSpec.ofChange txnBeginsWrong)

/- THE SECOND FORM. 'bulk': how many values and letters a reading holds, each counted each time it is reached (what is shared counts as often as it is met; a slice's spare places count too). A statement '..UptoSaid' is the law's where the arguments, and the package variables that the reading takes, are together of bulk at most 1048576: NARROWER than '..Said'. Prove '..Said' where nothing that the law and all that it calls make is longer than what came in: it says more and counts as full. Else prove '..UptoSaid'. A law counts once. -/
mutual
def uptoBulk {H : Type} : DataW H → Nat
  | .lit (.string bytes) => bytes.length + 1
  | .lit _ => 1
  | .nil => 1
  | .ptr d => uptoBulk d + 1
  | .slice elems spare => uptoBulkAll elems + uptoBulkAll spare + 1
  | .agg parts => uptoBulkAll parts + 1
  | .iface _ d => uptoBulk d + 1
  | .map entries => uptoBulkEntries entries + 1
  | .held _ => 1
def uptoBulkAll {H : Type} : List (DataW H) → Nat
  | [] => 0
  | d :: r => uptoBulk d + uptoBulkAll r
def uptoBulkEntries {H : Type} : List (Lit × DataW H) → Nat
  | [] => 0
  | x :: r => uptoBulkEntry x + uptoBulkEntries r
def uptoBulkEntry {H : Type} : Lit × DataW H → Nat
  | (.string bytes, d) => bytes.length + uptoBulk d + 1
  | (_, d) => uptoBulk d + 1
 end
def uptoSmall : (H : Type) → List (DataW H) → Bool := fun _ ds => decide (uptoBulkAll ds ≤ 1048576)
def OpenSpec.upto (s : _root_.Go.ChangeSpec) : _root_.Go.OpenSpec := { _root_.Go.OpenSpec.ofChange s with cond := some uptoSmall }

/-- 'wastebooklaw.DiskCrashes', WHERE WHAT IT READS IS OF BULK AT MOST 1048576: true; the input reads as it did. -/
def diskCrashesUptoRow : OpenClaim := { program := "ytjhmfljlclajnab", sum := "792646b3c86d07de099a85a651536944b0ad0a68c0d1f332178adb4ccbf0c803", func := "wastebook/wastebooklaw.DiskCrashes", spec := "diskCrashes", inPlace := ["internal/abi.NoEscape", "internal/bytealg.MakeNoZero"], unfollowed := true, recurses := true, apart := false, narrowed := true }
def DiskCrashesUptoSaid : Prop := diskCrashesUptoRow.holds Try.pinned (OpenSpec.upto diskCrashesSpec)

/-- 'wastebookkeep.FormHides', WHERE WHAT IT READS IS OF BULK AT MOST 1048576: true; the input reads as it did. -/
def formHidesUptoRow : OpenClaim := { program := "ytjhmfljlclajnab", sum := "792646b3c86d07de099a85a651536944b0ad0a68c0d1f332178adb4ccbf0c803", func := "wastebook/wastebookkeep.FormHides", spec := "formHides", inPlace := ["internal/abi.NoEscape", "internal/bytealg.MakeNoZero"], apart := false, narrowed := true }
def FormHidesUptoSaid : Prop := formHidesUptoRow.holds Try.pinned (OpenSpec.upto formHidesSpec)

/-- 'wastebookkeep.DiskKeeps', WHERE WHAT IT READS IS OF BULK AT MOST 1048576: true; the input reads as it did. -/
def diskKeepsUptoRow : OpenClaim := { program := "ytjhmfljlclajnab", sum := "792646b3c86d07de099a85a651536944b0ad0a68c0d1f332178adb4ccbf0c803", func := "wastebook/wastebookkeep.DiskKeeps", spec := "diskKeeps", inPlace := ["internal/abi.NoEscape", "internal/bytealg.MakeNoZero"], unfollowed := true, recurses := true, apart := false, narrowed := true }
def DiskKeepsUptoSaid : Prop := diskKeepsUptoRow.holds Try.pinned (OpenSpec.upto diskKeepsSpec)

/-- 'wastebooklaw.RecoverScans', WHERE WHAT IT READS IS OF BULK AT MOST 1048576: true; the input reads as it did. -/
def recoverScansUptoRow : OpenClaim := { program := "ytjhmfljlclajnab", sum := "792646b3c86d07de099a85a651536944b0ad0a68c0d1f332178adb4ccbf0c803", func := "wastebook/wastebooklaw.RecoverScans", spec := "recoverScans", inPlace := ["internal/abi.NoEscape", "internal/bytealg.MakeNoZero"], unfollowed := true, recurses := true, apart := false, narrowed := true }
def RecoverScansUptoSaid : Prop := recoverScansUptoRow.holds Try.pinned (OpenSpec.upto recoverScansSpec)

/-- 'wastebooklaw.RecoverReplays', WHERE WHAT IT READS IS OF BULK AT MOST 1048576: true; the input reads as it did. -/
def recoverReplaysUptoRow : OpenClaim := { program := "ytjhmfljlclajnab", sum := "792646b3c86d07de099a85a651536944b0ad0a68c0d1f332178adb4ccbf0c803", func := "wastebook/wastebooklaw.RecoverReplays", spec := "recoverReplays", inPlace := ["internal/abi.NoEscape", "internal/bytealg.MakeNoZero"], unfollowed := true, recurses := true, apart := false, narrowed := true }
def RecoverReplaysUptoSaid : Prop := recoverReplaysUptoRow.holds Try.pinned (OpenSpec.upto recoverReplaysSpec)

/-- 'wastebooklaw.TxnBegins', WHERE WHAT IT READS IS OF BULK AT MOST 1048576: true; the input reads as it did. -/
def txnBeginsUptoRow : OpenClaim := { program := "ytjhmfljlclajnab", sum := "792646b3c86d07de099a85a651536944b0ad0a68c0d1f332178adb4ccbf0c803", func := "wastebook/wastebooklaw.TxnBegins", spec := "txnBegins", inPlace := ["internal/abi.NoEscape", "internal/bytealg.MakeNoZero", "slices.overlaps[wastebook/api.Copy]"], unfollowed := true, recurses := true, apart := false, narrowed := true }
def TxnBeginsUptoSaid : Prop := txnBeginsUptoRow.holds Try.pinned (OpenSpec.upto txnBeginsSpec)

end Rows
end Go.Proofs.Ytjhmfljlclajnab
