/-
  NARROWER THAN 'FOR EVERY INPUT', by the rows' own cells (each row's printed sentence says how): TopOrdered: laid · TopRefused: laid · TopMemory: laid · TopEnds: laid.
  DERIVED. THE GIVEN ROWS OF THIS SEAT. 4 by the template 'for every input the law returns true; each argument reads behind the call as it read before'; 0 by the template 'total and deterministic' (their statements: YtjhmfljlclajnadGreatDoorTotals.lean).
  GIVEN WITH THE SEED: the statements are not yours to turn. If you find one false, say at which input.
  Laid BY PROGRAM, IN A SANDBOX (cutbox-rows.mjs): the forced cells as the released guide's own fill.sh prints them over the translation c364ff72db3425d0… (all of the seat's roots in one cut). By AI agents, Wed Nov 11 2026. No macro, syntax, notation, axiom, sorry.
-/
import Derived.Test.YtjhmfljlclajnadGreatDoorChecked
import GoSem.Claim
import GoSem.ClaimJoined
import GoSem.ClaimMapViews
import Derived.JoinedTies
import Derived.KernelRfl
namespace Go.Proofs.YtjhmfljlclajnadGreatDoor
/- THE CELL 'sum', in the pinned program and in every row, IS THE sha256 OF THE DUMP (.gsa) THAT YtjhmfljlclajnadGreatDoorProg.lean LOADS. Nothing in Lean hashes anything: it is a label: what it is worth is what the hold of that sum in a sandbox is worth. -/
noncomputable def Tryz.pinned : Pinned := { name := "ytjhmfljlclajnadgreatdoor", sum := "c364ff72db3425d0281bcd63145f2ba3118b8c2187337970c1e462295711943b", checked := Tryz.checked }
namespace Rows
def none {H : Type} : Left H := { results := [], args := [] }

/- WHAT THE LISTED PACKAGE-LEVEL VARIABLES READ AS WHEN THE CALL BEGINS. Each datum BY PROGRAM (the guide's laid-datum.mjs) off the statement by which the dump's own 'gosem.cut.vars' lays the variable. In a bare row this is a premise. The card (YtjhmfljlclajnadGreatDoorCards.lean) ties it to the program's text. -/
def laid_wastebook_seal_flush {H : Type} : DataW H := .agg [.lit (.int .i64 2), .lit (.int .i64 0), .lit (.string [])]

/-- 'wastebooktop.TopOrdered': WHATEVER THE INPUT: true; the input reads as it did. -/
def topOrderedSpec : ChangeSpec := { name := "topOrdered", fn := fun _ => fun
  | [d] => { results := [.lit (.bool true)], args := [d] }
  | _ => none }
def topOrderedRow : OpenClaim := { program := "ytjhmfljlclajnadgreatdoor", sum := "c364ff72db3425d0281bcd63145f2ba3118b8c2187337970c1e462295711943b", func := "wastebook/wastebooktop.TopOrdered", spec := "topOrdered", inPlace := ["internal/abi.NoEscape", "internal/bytealg.MakeNoZero", "slices.overlaps[wastebook/api.Copy]", "slices.overlaps[int]"], unfollowed := true, recurses := true, named := ["wastebook/seal.flush"], apart := false, laid := [("wastebook/seal.flush", laid_wastebook_seal_flush)] }
def TopOrderedSaid : Prop := topOrderedRow.holds Tryz.pinned (OpenSpec.ofChange topOrderedSpec)

/-- ITS FALSE NEIGHBOUR: 'it returns false'. Refute it at one input. -/
def topOrderedWrong : ChangeSpec := { name := "topOrdered", fn := fun _ => fun
  | [d] => { results := [.lit (.bool false)], args := [d] }
  | _ => none }
def TopOrderedWrongFalsely : Prop := topOrderedRow.holds Tryz.pinned (OpenSpec.ofChange topOrderedWrong)

/-- 'wastebooktop.TopRefused': WHATEVER THE INPUT: true; the input reads as it did. -/
def topRefusedSpec : ChangeSpec := { name := "topRefused", fn := fun _ => fun
  | [d1, d2] => { results := [.lit (.bool true)], args := [d1, d2] }
  | _ => none }
def topRefusedRow : OpenClaim := { program := "ytjhmfljlclajnadgreatdoor", sum := "c364ff72db3425d0281bcd63145f2ba3118b8c2187337970c1e462295711943b", func := "wastebook/wastebooktop.TopRefused", spec := "topRefused", inPlace := ["internal/abi.NoEscape", "internal/bytealg.MakeNoZero", "slices.overlaps[wastebook/api.Copy]", "slices.overlaps[int]"], unfollowed := true, recurses := true, named := ["wastebook/seal.flush"], apart := false, laid := [("wastebook/seal.flush", laid_wastebook_seal_flush)] }
def TopRefusedSaid : Prop := topRefusedRow.holds Tryz.pinned (OpenSpec.ofChange topRefusedSpec)

/-- ITS FALSE NEIGHBOUR: 'it returns false'. Refute it at one input. -/
def topRefusedWrong : ChangeSpec := { name := "topRefused", fn := fun _ => fun
  | [d1, d2] => { results := [.lit (.bool false)], args := [d1, d2] }
  | _ => none }
def TopRefusedWrongFalsely : Prop := topRefusedRow.holds Tryz.pinned (OpenSpec.ofChange topRefusedWrong)

/-- 'wastebooktop.TopMemory': WHATEVER THE INPUT: true; the input reads as it did. -/
def topMemorySpec : ChangeSpec := { name := "topMemory", fn := fun _ => fun
  | [d] => { results := [.lit (.bool true)], args := [d] }
  | _ => none }
def topMemoryRow : OpenClaim := { program := "ytjhmfljlclajnadgreatdoor", sum := "c364ff72db3425d0281bcd63145f2ba3118b8c2187337970c1e462295711943b", func := "wastebook/wastebooktop.TopMemory", spec := "topMemory", inPlace := ["internal/abi.NoEscape", "internal/bytealg.MakeNoZero", "slices.overlaps[wastebook/api.Copy]", "slices.overlaps[int]"], unfollowed := true, recurses := true, named := ["wastebook/seal.flush"], apart := false, laid := [("wastebook/seal.flush", laid_wastebook_seal_flush)] }
def TopMemorySaid : Prop := topMemoryRow.holds Tryz.pinned (OpenSpec.ofChange topMemorySpec)

/-- ITS FALSE NEIGHBOUR: 'it returns false'. Refute it at one input. -/
def topMemoryWrong : ChangeSpec := { name := "topMemory", fn := fun _ => fun
  | [d] => { results := [.lit (.bool false)], args := [d] }
  | _ => none }
def TopMemoryWrongFalsely : Prop := topMemoryRow.holds Tryz.pinned (OpenSpec.ofChange topMemoryWrong)

/-- 'wastebooktop.TopEnds': WHATEVER THE INPUT: true; the input reads as it did. -/
def topEndsSpec : ChangeSpec := { name := "topEnds", fn := fun _ => fun
  | [d1, d2] => { results := [.lit (.bool true)], args := [d1, d2] }
  | _ => none }
def topEndsRow : OpenClaim := { program := "ytjhmfljlclajnadgreatdoor", sum := "c364ff72db3425d0281bcd63145f2ba3118b8c2187337970c1e462295711943b", func := "wastebook/wastebooktop.TopEnds", spec := "topEnds", inPlace := ["internal/abi.NoEscape", "internal/bytealg.MakeNoZero", "slices.overlaps[wastebook/api.Copy]", "slices.overlaps[int]"], unfollowed := true, recurses := true, named := ["wastebook/seal.flush"], apart := false, laid := [("wastebook/seal.flush", laid_wastebook_seal_flush)] }
def TopEndsSaid : Prop := topEndsRow.holds Tryz.pinned (OpenSpec.ofChange topEndsSpec)

/-- ITS FALSE NEIGHBOUR: 'it returns false'. Refute it at one input. -/
def topEndsWrong : ChangeSpec := { name := "topEnds", fn := fun _ => fun
  | [d1, d2] => { results := [.lit (.bool false)], args := [d1, d2] }
  | _ => none }
def TopEndsWrongFalsely : Prop := topEndsRow.holds Tryz.pinned (OpenSpec.ofChange topEndsWrong)

/- THE SECOND FORM. 'bulk': how many values and letters a reading holds, each counted each time it is reached (what is shared counts as often as it is met; a slice's spare places count too). A statement '..UptoSaid' is the law's where the arguments, and the package variables that the reading takes, are together of bulk at most 1048576: NARROWER than '..Said'. Prove '..Said' where nothing that the law and all that it calls make is longer than what came in: it says more and counts as full. Else prove '..UptoSaid'. A law counts once. -/
mutual
def uptoBulk {H : Type} : DataW H → Nat
  | .lit (.string bytes) => bytes.length + 1
  | .lit _ => 1
  | .nil => 1
  | .ptr d => uptoBulk d + 1
  | .slice elems spare => uptoBulkAll elems + uptoBulkAll spare + 1
  | .agg parts => uptoBulkAll parts + 1
  | .iface _ d => uptoBulk d + 1
  | .map entries => uptoBulkEntries entries + 1
  | .held _ => 1
def uptoBulkAll {H : Type} : List (DataW H) → Nat
  | [] => 0
  | d :: r => uptoBulk d + uptoBulkAll r
def uptoBulkEntries {H : Type} : List (Lit × DataW H) → Nat
  | [] => 0
  | x :: r => uptoBulkEntry x + uptoBulkEntries r
def uptoBulkEntry {H : Type} : Lit × DataW H → Nat
  | (.string bytes, d) => bytes.length + uptoBulk d + 1
  | (_, d) => uptoBulk d + 1
 end
def uptoSmall : (H : Type) → List (DataW H) → Bool := fun _ ds => decide (uptoBulkAll ds ≤ 1048576)
def OpenSpec.upto (s : _root_.Go.ChangeSpec) : _root_.Go.OpenSpec := { _root_.Go.OpenSpec.ofChange s with cond := some uptoSmall }

/-- 'wastebooktop.TopOrdered', WHERE WHAT IT READS IS OF BULK AT MOST 1048576: true; the input reads as it did. -/
def topOrderedUptoRow : OpenClaim := { program := "ytjhmfljlclajnadgreatdoor", sum := "c364ff72db3425d0281bcd63145f2ba3118b8c2187337970c1e462295711943b", func := "wastebook/wastebooktop.TopOrdered", spec := "topOrdered", inPlace := ["internal/abi.NoEscape", "internal/bytealg.MakeNoZero", "slices.overlaps[wastebook/api.Copy]", "slices.overlaps[int]"], unfollowed := true, recurses := true, named := ["wastebook/seal.flush"], apart := false, laid := [("wastebook/seal.flush", laid_wastebook_seal_flush)], narrowed := true }
def TopOrderedUptoSaid : Prop := topOrderedUptoRow.holds Tryz.pinned (OpenSpec.upto topOrderedSpec)

/-- 'wastebooktop.TopRefused', WHERE WHAT IT READS IS OF BULK AT MOST 1048576: true; the input reads as it did. -/
def topRefusedUptoRow : OpenClaim := { program := "ytjhmfljlclajnadgreatdoor", sum := "c364ff72db3425d0281bcd63145f2ba3118b8c2187337970c1e462295711943b", func := "wastebook/wastebooktop.TopRefused", spec := "topRefused", inPlace := ["internal/abi.NoEscape", "internal/bytealg.MakeNoZero", "slices.overlaps[wastebook/api.Copy]", "slices.overlaps[int]"], unfollowed := true, recurses := true, named := ["wastebook/seal.flush"], apart := false, laid := [("wastebook/seal.flush", laid_wastebook_seal_flush)], narrowed := true }
def TopRefusedUptoSaid : Prop := topRefusedUptoRow.holds Tryz.pinned (OpenSpec.upto topRefusedSpec)

/-- 'wastebooktop.TopMemory', WHERE WHAT IT READS IS OF BULK AT MOST 1048576: true; the input reads as it did. -/
def topMemoryUptoRow : OpenClaim := { program := "ytjhmfljlclajnadgreatdoor", sum := "c364ff72db3425d0281bcd63145f2ba3118b8c2187337970c1e462295711943b", func := "wastebook/wastebooktop.TopMemory", spec := "topMemory", inPlace := ["internal/abi.NoEscape", "internal/bytealg.MakeNoZero", "slices.overlaps[wastebook/api.Copy]", "slices.overlaps[int]"], unfollowed := true, recurses := true, named := ["wastebook/seal.flush"], apart := false, laid := [("wastebook/seal.flush", laid_wastebook_seal_flush)], narrowed := true }
def TopMemoryUptoSaid : Prop := topMemoryUptoRow.holds Tryz.pinned (OpenSpec.upto topMemorySpec)

/-- 'wastebooktop.TopEnds', WHERE WHAT IT READS IS OF BULK AT MOST 1048576: true; the input reads as it did. -/
def topEndsUptoRow : OpenClaim := { program := "ytjhmfljlclajnadgreatdoor", sum := "c364ff72db3425d0281bcd63145f2ba3118b8c2187337970c1e462295711943b", func := "wastebook/wastebooktop.TopEnds", spec := "topEnds", inPlace := ["internal/abi.NoEscape", "internal/bytealg.MakeNoZero", "slices.overlaps[wastebook/api.Copy]", "slices.overlaps[int]"], unfollowed := true, recurses := true, named := ["wastebook/seal.flush"], apart := false, laid := [("wastebook/seal.flush", laid_wastebook_seal_flush)], narrowed := true }
def TopEndsUptoSaid : Prop := topEndsUptoRow.holds Tryz.pinned (OpenSpec.upto topEndsSpec)

end Rows
end Go.Proofs.YtjhmfljlclajnadGreatDoor
