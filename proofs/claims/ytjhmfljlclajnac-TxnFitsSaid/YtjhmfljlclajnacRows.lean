/-
  No cell of these rows narrows 'for every input' (looked for: loops, veiled, ifaces, maps, wideKeys, modest, calm, conditions, laid).
  DERIVED. THE GIVEN ROWS OF THIS SEAT. 3 by the template 'for every input the law returns true; each argument reads behind the call as it read before'; 0 by the template 'total and deterministic' (their statements: YtjhmfljlclajnacTotals.lean).
  GIVEN WITH THE SEED: the statements are not yours to turn. If you find one false, say at which input.
  Laid BY PROGRAM, IN A SANDBOX (cutbox-rows.mjs): the forced cells as the released guide's own fill.sh prints them over the translation ef80f7f723248993… (all of the seat's roots in one cut). By AI agents, Wed Nov 11 2026. No macro, syntax, notation, axiom, sorry.
-/
import Derived.Test.YtjhmfljlclajnacChecked
import GoSem.Claim
import GoSem.ClaimJoined
import GoSem.ClaimMapViews
import Derived.JoinedTies
import Derived.KernelRfl
namespace Go.Proofs.Ytjhmfljlclajnac
/- THE CELL 'sum', in the pinned program and in every row, IS THE sha256 OF THE DUMP (.gsa) THAT YtjhmfljlclajnacProg.lean LOADS. Nothing in Lean hashes anything: it is a label: what it is worth is what the hold of that sum in a sandbox is worth. -/
noncomputable def Try.pinned : Pinned := { name := "ytjhmfljlclajnac", sum := "ef80f7f7232489939141eab1bb5e577fb996e53e266aa1c30e95297ee6e1ac9b", checked := Try.checked }
namespace Rows
def none {H : Type} : Left H := { results := [], args := [] }

/-- 'wastebooklaw.TxnAlters': WHATEVER THE INPUT: true; the input reads as it did. -/
def txnAltersSpec : ChangeSpec := { name := "txnAlters", fn := fun _ => fun
  | [d1, d2, d3, d4] => { results := [.lit (.bool true)], args := [d1, d2, d3, d4] }
  | _ => none }
def txnAltersRow : OpenClaim := { program := "ytjhmfljlclajnac", sum := "ef80f7f7232489939141eab1bb5e577fb996e53e266aa1c30e95297ee6e1ac9b", func := "wastebook/wastebooklaw.TxnAlters", spec := "txnAlters", inPlace := ["slices.overlaps[wastebook/api.Copy]", "slices.overlaps[int]", "internal/abi.NoEscape", "internal/bytealg.MakeNoZero"], unfollowed := true, recurses := true, apart := false }
def TxnAltersSaid : Prop := txnAltersRow.holds Try.pinned (OpenSpec.ofChange txnAltersSpec)

/-- ITS FALSE NEIGHBOUR: 'it returns false'. Refute it at one input. -/
def txnAltersWrong : ChangeSpec := { name := "txnAlters", fn := fun _ => fun
  | [d1, d2, d3, d4] => { results := [.lit (.bool false)], args := [d1, d2, d3, d4] }
  | _ => none }
def TxnAltersWrongFalsely : Prop := txnAltersRow.holds Try.pinned (OpenSpec.ofChange txnAltersWrong)

/-- 'wastebookkeep.TxnLast': WHATEVER THE INPUT: true; the input reads as it did. -/
def txnLastSpec : ChangeSpec := { name := "txnLast", fn := fun _ => fun
  | [d1, d2, d3, d4, d5] => { results := [.lit (.bool true)], args := [d1, d2, d3, d4, d5] }
  | _ => none }
def txnLastRow : OpenClaim := { program := "ytjhmfljlclajnac", sum := "ef80f7f7232489939141eab1bb5e577fb996e53e266aa1c30e95297ee6e1ac9b", func := "wastebook/wastebookkeep.TxnLast", spec := "txnLast", inPlace := ["internal/abi.NoEscape", "internal/bytealg.MakeNoZero", "slices.overlaps[wastebook/api.Copy]", "slices.overlaps[int]"], unfollowed := true, recurses := true, apart := false }
def TxnLastSaid : Prop := txnLastRow.holds Try.pinned (OpenSpec.ofChange txnLastSpec)

/-- ITS FALSE NEIGHBOUR: 'it returns false'. Refute it at one input. -/
def txnLastWrong : ChangeSpec := { name := "txnLast", fn := fun _ => fun
  | [d1, d2, d3, d4, d5] => { results := [.lit (.bool false)], args := [d1, d2, d3, d4, d5] }
  | _ => none }
def TxnLastWrongFalsely : Prop := txnLastRow.holds Try.pinned (OpenSpec.ofChange txnLastWrong)

/-- 'wastebookkeep.TxnFits': WHATEVER THE INPUT: true; the input reads as it did. -/
def txnFitsSpec : ChangeSpec := { name := "txnFits", fn := fun _ => fun
  | [d1, d2] => { results := [.lit (.bool true)], args := [d1, d2] }
  | _ => none }
def txnFitsRow : OpenClaim := { program := "ytjhmfljlclajnac", sum := "ef80f7f7232489939141eab1bb5e577fb996e53e266aa1c30e95297ee6e1ac9b", func := "wastebook/wastebookkeep.TxnFits", spec := "txnFits", inPlace := ["internal/abi.NoEscape", "internal/bytealg.MakeNoZero", "slices.overlaps[wastebook/api.Copy]", "slices.overlaps[int]"], unfollowed := true, recurses := true, apart := false }
def TxnFitsSaid : Prop := txnFitsRow.holds Try.pinned (OpenSpec.ofChange txnFitsSpec)

/-- ITS FALSE NEIGHBOUR: 'it returns false'. Refute it at one input. -/
def txnFitsWrong : ChangeSpec := { name := "txnFits", fn := fun _ => fun
  | [d1, d2] => { results := [.lit (.bool false)], args := [d1, d2] }
  | _ => none }
def TxnFitsWrongFalsely : Prop := txnFitsRow.holds Try.pinned (OpenSpec.ofChange txnFitsWrong)

/- THE SECOND FORM. 'bulk': how many values and letters a reading holds, each counted each time it is reached (what is shared counts as often as it is met; a slice's spare places count too). A statement '..UptoSaid' is the law's where the arguments, and the package variables that the reading takes, are together of bulk at most 1048576: NARROWER than '..Said'. Prove '..Said' where nothing that the law and all that it calls make is longer than what came in: it says more and counts as full. Else prove '..UptoSaid'. A law counts once. -/
mutual
def uptoBulk {H : Type} : DataW H → Nat
  | .lit (.string bytes) => bytes.length + 1
  | .lit _ => 1
  | .nil => 1
  | .ptr d => uptoBulk d + 1
  | .slice elems spare => uptoBulkAll elems + uptoBulkAll spare + 1
  | .agg parts => uptoBulkAll parts + 1
  | .iface _ d => uptoBulk d + 1
  | .map entries => uptoBulkEntries entries + 1
  | .held _ => 1
def uptoBulkAll {H : Type} : List (DataW H) → Nat
  | [] => 0
  | d :: r => uptoBulk d + uptoBulkAll r
def uptoBulkEntries {H : Type} : List (Lit × DataW H) → Nat
  | [] => 0
  | x :: r => uptoBulkEntry x + uptoBulkEntries r
def uptoBulkEntry {H : Type} : Lit × DataW H → Nat
  | (.string bytes, d) => bytes.length + uptoBulk d + 1
  | (_, d) => uptoBulk d + 1
 end
def uptoSmall : (H : Type) → List (DataW H) → Bool := fun _ ds => decide (uptoBulkAll ds ≤ 1048576)
def OpenSpec.upto (s : _root_.Go.ChangeSpec) : _root_.Go.OpenSpec := { _root_.Go.OpenSpec.ofChange s with cond := some uptoSmall }

/-- 'wastebooklaw.TxnAlters', WHERE WHAT IT READS IS OF BULK AT MOST 1048576: true; the input reads as it did. -/
def txnAltersUptoRow : OpenClaim := { program := "ytjhmfljlclajnac", sum := "ef80f7f7232489939141eab1bb5e577fb996e53e266aa1c30e95297ee6e1ac9b", func := "wastebook/wastebooklaw.TxnAlters", spec := "txnAlters", inPlace := ["slices.overlaps[wastebook/api.Copy]", "slices.overlaps[int]", "internal/abi.NoEscape", "internal/bytealg.MakeNoZero"], unfollowed := true, recurses := true, apart := false, narrowed := true }
def TxnAltersUptoSaid : Prop := txnAltersUptoRow.holds Try.pinned (OpenSpec.upto txnAltersSpec)

/-- 'wastebookkeep.TxnLast', WHERE WHAT IT READS IS OF BULK AT MOST 1048576: true; the input reads as it did. -/
def txnLastUptoRow : OpenClaim := { program := "ytjhmfljlclajnac", sum := "ef80f7f7232489939141eab1bb5e577fb996e53e266aa1c30e95297ee6e1ac9b", func := "wastebook/wastebookkeep.TxnLast", spec := "txnLast", inPlace := ["internal/abi.NoEscape", "internal/bytealg.MakeNoZero", "slices.overlaps[wastebook/api.Copy]", "slices.overlaps[int]"], unfollowed := true, recurses := true, apart := false, narrowed := true }
def TxnLastUptoSaid : Prop := txnLastUptoRow.holds Try.pinned (OpenSpec.upto txnLastSpec)

/-- 'wastebookkeep.TxnFits', WHERE WHAT IT READS IS OF BULK AT MOST 1048576: true; the input reads as it did. -/
def txnFitsUptoRow : OpenClaim := { program := "ytjhmfljlclajnac", sum := "ef80f7f7232489939141eab1bb5e577fb996e53e266aa1c30e95297ee6e1ac9b", func := "wastebook/wastebookkeep.TxnFits", spec := "txnFits", inPlace := ["internal/abi.NoEscape", "internal/bytealg.MakeNoZero", "slices.overlaps[wastebook/api.Copy]", "slices.overlaps[int]"], unfollowed := true, recurses := true, apart := false, narrowed := true }
def TxnFitsUptoSaid : Prop := txnFitsUptoRow.holds Try.pinned (OpenSpec.upto txnFitsSpec)

end Rows
end Go.Proofs.Ytjhmfljlclajnac
