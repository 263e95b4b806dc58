/-
  NARROWER THAN 'FOR EVERY INPUT', by the rows' own cells (each row's printed sentence says how): JournalNil: laid · JournalRuns: laid · JournalPlays: laid · TopWhole: laid · TopAnywhere: laid · TopSettles: laid · TopSpace: laid.
  DERIVED. THE GIVEN ROWS OF THIS SEAT. 7 by the template 'for every input the law returns true; each argument reads behind the call as it read before'; 0 by the template 'total and deterministic' (their statements: YtjhmfljlclajnacGreatDoorTotals.lean).
  GIVEN WITH THE SEED: the statements are not yours to turn. If you find one false, say at which input.
  Laid BY PROGRAM, IN A SANDBOX (cutbox-rows.mjs): the forced cells as the released guide's own fill.sh prints them over the translation a4ecd1c55e78a222… (all of the seat's roots in one cut). By AI agents, Wed Nov 11 2026. No macro, syntax, notation, axiom, sorry.
-/
import Derived.Test.YtjhmfljlclajnacGreatDoorChecked
import GoSem.Claim
import GoSem.ClaimJoined
import GoSem.ClaimMapViews
import Derived.JoinedTies
import Derived.KernelRfl
namespace Go.Proofs.YtjhmfljlclajnacGreatDoor
/- THE CELL 'sum', in the pinned program and in every row, IS THE sha256 OF THE DUMP (.gsa) THAT YtjhmfljlclajnacGreatDoorProg.lean LOADS. Nothing in Lean hashes anything: it is a label: what it is worth is what the hold of that sum in a sandbox is worth. -/
noncomputable def Tryz.pinned : Pinned := { name := "ytjhmfljlclajnacgreatdoor", sum := "a4ecd1c55e78a2220389567a13ea054d4009bddc33246898745a812cb5d7d452", checked := Tryz.checked }
namespace Rows
def none {H : Type} : Left H := { results := [], args := [] }

/- WHAT THE LISTED PACKAGE-LEVEL VARIABLES READ AS WHEN THE CALL BEGINS. Each datum BY PROGRAM (the guide's laid-datum.mjs) off the statement by which the dump's own 'gosem.cut.vars' lays the variable. In a bare row this is a premise. The card (YtjhmfljlclajnacGreatDoorCards.lean) ties it to the program's text. -/
def laid_wastebook_seal_flush {H : Type} : DataW H := .agg [.lit (.int .i64 2), .lit (.int .i64 0), .lit (.string [])]

/-- 'wastebooklaw.JournalNil': WHATEVER THE INPUT: true; the input reads as it did. -/
def journalNilSpec : ChangeSpec := { name := "journalNil", fn := fun _ => fun
  | [d] => { results := [.lit (.bool true)], args := [d] }
  | _ => none }
def journalNilRow : OpenClaim := { program := "ytjhmfljlclajnacgreatdoor", sum := "a4ecd1c55e78a2220389567a13ea054d4009bddc33246898745a812cb5d7d452", func := "wastebook/wastebooklaw.JournalNil", spec := "journalNil", inPlace := ["internal/abi.NoEscape", "internal/bytealg.MakeNoZero", "slices.overlaps[wastebook/api.Copy]", "slices.overlaps[int]"], unfollowed := true, recurses := true, named := ["wastebook/seal.flush"], apart := false, laid := [("wastebook/seal.flush", laid_wastebook_seal_flush)] }
def JournalNilSaid : Prop := journalNilRow.holds Tryz.pinned (OpenSpec.ofChange journalNilSpec)

/-- ITS FALSE NEIGHBOUR: 'it returns false'. Refute it at one input. -/
def journalNilWrong : ChangeSpec := { name := "journalNil", fn := fun _ => fun
  | [d] => { results := [.lit (.bool false)], args := [d] }
  | _ => none }
def JournalNilWrongFalsely : Prop := journalNilRow.holds Tryz.pinned (OpenSpec.ofChange journalNilWrong)

/-- 'wastebooklaw.JournalRuns': WHATEVER THE INPUT: true; the input reads as it did. -/
def journalRunsSpec : ChangeSpec := { name := "journalRuns", fn := fun _ => fun
  | [d] => { results := [.lit (.bool true)], args := [d] }
  | _ => none }
def journalRunsRow : OpenClaim := { program := "ytjhmfljlclajnacgreatdoor", sum := "a4ecd1c55e78a2220389567a13ea054d4009bddc33246898745a812cb5d7d452", func := "wastebook/wastebooklaw.JournalRuns", spec := "journalRuns", inPlace := ["internal/abi.NoEscape", "internal/bytealg.MakeNoZero", "slices.overlaps[wastebook/api.Copy]", "slices.overlaps[int]"], unfollowed := true, recurses := true, named := ["wastebook/seal.flush"], apart := false, laid := [("wastebook/seal.flush", laid_wastebook_seal_flush)] }
def JournalRunsSaid : Prop := journalRunsRow.holds Tryz.pinned (OpenSpec.ofChange journalRunsSpec)

/-- ITS FALSE NEIGHBOUR: 'it returns false'. Refute it at one input. -/
def journalRunsWrong : ChangeSpec := { name := "journalRuns", fn := fun _ => fun
  | [d] => { results := [.lit (.bool false)], args := [d] }
  | _ => none }
def JournalRunsWrongFalsely : Prop := journalRunsRow.holds Tryz.pinned (OpenSpec.ofChange journalRunsWrong)

/-- 'wastebooklaw.JournalPlays': WHATEVER THE INPUT: true; the input reads as it did. -/
def journalPlaysSpec : ChangeSpec := { name := "journalPlays", fn := fun _ => fun
  | [d] => { results := [.lit (.bool true)], args := [d] }
  | _ => none }
def journalPlaysRow : OpenClaim := { program := "ytjhmfljlclajnacgreatdoor", sum := "a4ecd1c55e78a2220389567a13ea054d4009bddc33246898745a812cb5d7d452", func := "wastebook/wastebooklaw.JournalPlays", spec := "journalPlays", inPlace := ["internal/abi.NoEscape", "internal/bytealg.MakeNoZero", "slices.overlaps[wastebook/api.Copy]", "slices.overlaps[int]"], unfollowed := true, recurses := true, named := ["wastebook/seal.flush"], apart := false, laid := [("wastebook/seal.flush", laid_wastebook_seal_flush)] }
def JournalPlaysSaid : Prop := journalPlaysRow.holds Tryz.pinned (OpenSpec.ofChange journalPlaysSpec)

/-- ITS FALSE NEIGHBOUR: 'it returns false'. Refute it at one input. -/
def journalPlaysWrong : ChangeSpec := { name := "journalPlays", fn := fun _ => fun
  | [d] => { results := [.lit (.bool false)], args := [d] }
  | _ => none }
def JournalPlaysWrongFalsely : Prop := journalPlaysRow.holds Tryz.pinned (OpenSpec.ofChange journalPlaysWrong)

/-- 'wastebooktop.TopWhole': WHATEVER THE INPUT: true; the input reads as it did. -/
def topWholeSpec : ChangeSpec := { name := "topWhole", fn := fun _ => fun
  | [d] => { results := [.lit (.bool true)], args := [d] }
  | _ => none }
def topWholeRow : OpenClaim := { program := "ytjhmfljlclajnacgreatdoor", sum := "a4ecd1c55e78a2220389567a13ea054d4009bddc33246898745a812cb5d7d452", func := "wastebook/wastebooktop.TopWhole", spec := "topWhole", inPlace := ["internal/abi.NoEscape", "internal/bytealg.MakeNoZero", "slices.overlaps[wastebook/api.Copy]", "slices.overlaps[int]"], unfollowed := true, recurses := true, named := ["wastebook/seal.flush"], apart := false, laid := [("wastebook/seal.flush", laid_wastebook_seal_flush)] }
def TopWholeSaid : Prop := topWholeRow.holds Tryz.pinned (OpenSpec.ofChange topWholeSpec)

/-- ITS FALSE NEIGHBOUR: 'it returns false'. Refute it at one input. -/
def topWholeWrong : ChangeSpec := { name := "topWhole", fn := fun _ => fun
  | [d] => { results := [.lit (.bool false)], args := [d] }
  | _ => none }
def TopWholeWrongFalsely : Prop := topWholeRow.holds Tryz.pinned (OpenSpec.ofChange topWholeWrong)

/-- 'wastebooktop.TopAnywhere': WHATEVER THE INPUT: true; the input reads as it did. -/
def topAnywhereSpec : ChangeSpec := { name := "topAnywhere", fn := fun _ => fun
  | [d1, d2] => { results := [.lit (.bool true)], args := [d1, d2] }
  | _ => none }
def topAnywhereRow : OpenClaim := { program := "ytjhmfljlclajnacgreatdoor", sum := "a4ecd1c55e78a2220389567a13ea054d4009bddc33246898745a812cb5d7d452", func := "wastebook/wastebooktop.TopAnywhere", spec := "topAnywhere", inPlace := ["internal/abi.NoEscape", "internal/bytealg.MakeNoZero", "slices.overlaps[wastebook/api.Copy]", "slices.overlaps[int]"], unfollowed := true, recurses := true, named := ["wastebook/seal.flush"], apart := false, laid := [("wastebook/seal.flush", laid_wastebook_seal_flush)] }
def TopAnywhereSaid : Prop := topAnywhereRow.holds Tryz.pinned (OpenSpec.ofChange topAnywhereSpec)

/-- ITS FALSE NEIGHBOUR: 'it returns false'. Refute it at one input. -/
def topAnywhereWrong : ChangeSpec := { name := "topAnywhere", fn := fun _ => fun
  | [d1, d2] => { results := [.lit (.bool false)], args := [d1, d2] }
  | _ => none }
def TopAnywhereWrongFalsely : Prop := topAnywhereRow.holds Tryz.pinned (OpenSpec.ofChange topAnywhereWrong)

/-- 'wastebooktop.TopSettles': WHATEVER THE INPUT: true; the input reads as it did. -/
def topSettlesSpec : ChangeSpec := { name := "topSettles", fn := fun _ => fun
  | [d] => { results := [.lit (.bool true)], args := [d] }
  | _ => none }
def topSettlesRow : OpenClaim := { program := "ytjhmfljlclajnacgreatdoor", sum := "a4ecd1c55e78a2220389567a13ea054d4009bddc33246898745a812cb5d7d452", func := "wastebook/wastebooktop.TopSettles", spec := "topSettles", inPlace := ["internal/abi.NoEscape", "internal/bytealg.MakeNoZero", "slices.overlaps[wastebook/api.Copy]", "slices.overlaps[int]"], unfollowed := true, recurses := true, named := ["wastebook/seal.flush"], apart := false, laid := [("wastebook/seal.flush", laid_wastebook_seal_flush)] }
def TopSettlesSaid : Prop := topSettlesRow.holds Tryz.pinned (OpenSpec.ofChange topSettlesSpec)

/-- ITS FALSE NEIGHBOUR: 'it returns false'. Refute it at one input. -/
def topSettlesWrong : ChangeSpec := { name := "topSettles", fn := fun _ => fun
  | [d] => { results := [.lit (.bool false)], args := [d] }
  | _ => none }
def TopSettlesWrongFalsely : Prop := topSettlesRow.holds Tryz.pinned (OpenSpec.ofChange topSettlesWrong)

/-- 'wastebooktop.TopSpace': WHATEVER THE INPUT: true; the input reads as it did. -/
def topSpaceSpec : ChangeSpec := { name := "topSpace", fn := fun _ => fun
  | [d] => { results := [.lit (.bool true)], args := [d] }
  | _ => none }
def topSpaceRow : OpenClaim := { program := "ytjhmfljlclajnacgreatdoor", sum := "a4ecd1c55e78a2220389567a13ea054d4009bddc33246898745a812cb5d7d452", func := "wastebook/wastebooktop.TopSpace", spec := "topSpace", inPlace := ["internal/abi.NoEscape", "internal/bytealg.MakeNoZero", "slices.overlaps[wastebook/api.Copy]", "slices.overlaps[int]"], unfollowed := true, recurses := true, named := ["wastebook/seal.flush"], apart := false, laid := [("wastebook/seal.flush", laid_wastebook_seal_flush)] }
def TopSpaceSaid : Prop := topSpaceRow.holds Tryz.pinned (OpenSpec.ofChange topSpaceSpec)

/-- ITS FALSE NEIGHBOUR: 'it returns false'. Refute it at one input. -/
def topSpaceWrong : ChangeSpec := { name := "topSpace", fn := fun _ => fun
  | [d] => { results := [.lit (.bool false)], args := [d] }
  | _ => none }
def TopSpaceWrongFalsely : Prop := topSpaceRow.holds Tryz.pinned (OpenSpec.ofChange topSpaceWrong)

/- THE SECOND FORM. 'bulk': how many values and letters a reading holds, each counted each time it is reached (what is shared counts as often as it is met; a slice's spare places count too). A statement '..UptoSaid' is the law's where the arguments, and the package variables that the reading takes, are together of bulk at most 1048576: NARROWER than '..Said'. Prove '..Said' where nothing that the law and all that it calls make is longer than what came in: it says more and counts as full. Else prove '..UptoSaid'. A law counts once. -/
mutual
def uptoBulk {H : Type} : DataW H → Nat
  | .lit (.string bytes) => bytes.length + 1
  | .lit _ => 1
  | .nil => 1
  | .ptr d => uptoBulk d + 1
  | .slice elems spare => uptoBulkAll elems + uptoBulkAll spare + 1
  | .agg parts => uptoBulkAll parts + 1
  | .iface _ d => uptoBulk d + 1
  | .map entries => uptoBulkEntries entries + 1
  | .held _ => 1
def uptoBulkAll {H : Type} : List (DataW H) → Nat
  | [] => 0
  | d :: r => uptoBulk d + uptoBulkAll r
def uptoBulkEntries {H : Type} : List (Lit × DataW H) → Nat
  | [] => 0
  | x :: r => uptoBulkEntry x + uptoBulkEntries r
def uptoBulkEntry {H : Type} : Lit × DataW H → Nat
  | (.string bytes, d) => bytes.length + uptoBulk d + 1
  | (_, d) => uptoBulk d + 1
 end
def uptoSmall : (H : Type) → List (DataW H) → Bool := fun _ ds => decide (uptoBulkAll ds ≤ 1048576)
def OpenSpec.upto (s : _root_.Go.ChangeSpec) : _root_.Go.OpenSpec := { _root_.Go.OpenSpec.ofChange s with cond := some uptoSmall }

/-- 'wastebooklaw.JournalNil', WHERE WHAT IT READS IS OF BULK AT MOST 1048576: true; the input reads as it did. -/
def journalNilUptoRow : OpenClaim := { program := "ytjhmfljlclajnacgreatdoor", sum := "a4ecd1c55e78a2220389567a13ea054d4009bddc33246898745a812cb5d7d452", func := "wastebook/wastebooklaw.JournalNil", spec := "journalNil", inPlace := ["internal/abi.NoEscape", "internal/bytealg.MakeNoZero", "slices.overlaps[wastebook/api.Copy]", "slices.overlaps[int]"], unfollowed := true, recurses := true, named := ["wastebook/seal.flush"], apart := false, laid := [("wastebook/seal.flush", laid_wastebook_seal_flush)], narrowed := true }
def JournalNilUptoSaid : Prop := journalNilUptoRow.holds Tryz.pinned (OpenSpec.upto journalNilSpec)

/-- 'wastebooklaw.JournalRuns', WHERE WHAT IT READS IS OF BULK AT MOST 1048576: true; the input reads as it did. -/
def journalRunsUptoRow : OpenClaim := { program := "ytjhmfljlclajnacgreatdoor", sum := "a4ecd1c55e78a2220389567a13ea054d4009bddc33246898745a812cb5d7d452", func := "wastebook/wastebooklaw.JournalRuns", spec := "journalRuns", inPlace := ["internal/abi.NoEscape", "internal/bytealg.MakeNoZero", "slices.overlaps[wastebook/api.Copy]", "slices.overlaps[int]"], unfollowed := true, recurses := true, named := ["wastebook/seal.flush"], apart := false, laid := [("wastebook/seal.flush", laid_wastebook_seal_flush)], narrowed := true }
def JournalRunsUptoSaid : Prop := journalRunsUptoRow.holds Tryz.pinned (OpenSpec.upto journalRunsSpec)

/-- 'wastebooklaw.JournalPlays', WHERE WHAT IT READS IS OF BULK AT MOST 1048576: true; the input reads as it did. -/
def journalPlaysUptoRow : OpenClaim := { program := "ytjhmfljlclajnacgreatdoor", sum := "a4ecd1c55e78a2220389567a13ea054d4009bddc33246898745a812cb5d7d452", func := "wastebook/wastebooklaw.JournalPlays", spec := "journalPlays", inPlace := ["internal/abi.NoEscape", "internal/bytealg.MakeNoZero", "slices.overlaps[wastebook/api.Copy]", "slices.overlaps[int]"], unfollowed := true, recurses := true, named := ["wastebook/seal.flush"], apart := false, laid := [("wastebook/seal.flush", laid_wastebook_seal_flush)], narrowed := true }
def JournalPlaysUptoSaid : Prop := journalPlaysUptoRow.holds Tryz.pinned (OpenSpec.upto journalPlaysSpec)

/-- 'wastebooktop.TopWhole', WHERE WHAT IT READS IS OF BULK AT MOST 1048576: true; the input reads as it did. -/
def topWholeUptoRow : OpenClaim := { program := "ytjhmfljlclajnacgreatdoor", sum := "a4ecd1c55e78a2220389567a13ea054d4009bddc33246898745a812cb5d7d452", func := "wastebook/wastebooktop.TopWhole", spec := "topWhole", inPlace := ["internal/abi.NoEscape", "internal/bytealg.MakeNoZero", "slices.overlaps[wastebook/api.Copy]", "slices.overlaps[int]"], unfollowed := true, recurses := true, named := ["wastebook/seal.flush"], apart := false, laid := [("wastebook/seal.flush", laid_wastebook_seal_flush)], narrowed := true }
def TopWholeUptoSaid : Prop := topWholeUptoRow.holds Tryz.pinned (OpenSpec.upto topWholeSpec)

/-- 'wastebooktop.TopAnywhere', WHERE WHAT IT READS IS OF BULK AT MOST 1048576: true; the input reads as it did. -/
def topAnywhereUptoRow : OpenClaim := { program := "ytjhmfljlclajnacgreatdoor", sum := "a4ecd1c55e78a2220389567a13ea054d4009bddc33246898745a812cb5d7d452", func := "wastebook/wastebooktop.TopAnywhere", spec := "topAnywhere", inPlace := ["internal/abi.NoEscape", "internal/bytealg.MakeNoZero", "slices.overlaps[wastebook/api.Copy]", "slices.overlaps[int]"], unfollowed := true, recurses := true, named := ["wastebook/seal.flush"], apart := false, laid := [("wastebook/seal.flush", laid_wastebook_seal_flush)], narrowed := true }
def TopAnywhereUptoSaid : Prop := topAnywhereUptoRow.holds Tryz.pinned (OpenSpec.upto topAnywhereSpec)

/-- 'wastebooktop.TopSettles', WHERE WHAT IT READS IS OF BULK AT MOST 1048576: true; the input reads as it did. -/
def topSettlesUptoRow : OpenClaim := { program := "ytjhmfljlclajnacgreatdoor", sum := "a4ecd1c55e78a2220389567a13ea054d4009bddc33246898745a812cb5d7d452", func := "wastebook/wastebooktop.TopSettles", spec := "topSettles", inPlace := ["internal/abi.NoEscape", "internal/bytealg.MakeNoZero", "slices.overlaps[wastebook/api.Copy]", "slices.overlaps[int]"], unfollowed := true, recurses := true, named := ["wastebook/seal.flush"], apart := false, laid := [("wastebook/seal.flush", laid_wastebook_seal_flush)], narrowed := true }
def TopSettlesUptoSaid : Prop := topSettlesUptoRow.holds Tryz.pinned (OpenSpec.upto topSettlesSpec)

/-- 'wastebooktop.TopSpace', WHERE WHAT IT READS IS OF BULK AT MOST 1048576: true; the input reads as it did. -/
def topSpaceUptoRow : OpenClaim := { program := "ytjhmfljlclajnacgreatdoor", sum := "a4ecd1c55e78a2220389567a13ea054d4009bddc33246898745a812cb5d7d452", func := "wastebook/wastebooktop.TopSpace", spec := "topSpace", inPlace := ["internal/abi.NoEscape", "internal/bytealg.MakeNoZero", "slices.overlaps[wastebook/api.Copy]", "slices.overlaps[int]"], unfollowed := true, recurses := true, named := ["wastebook/seal.flush"], apart := false, laid := [("wastebook/seal.flush", laid_wastebook_seal_flush)], narrowed := true }
def TopSpaceUptoSaid : Prop := topSpaceUptoRow.holds Tryz.pinned (OpenSpec.upto topSpaceSpec)

end Rows
end Go.Proofs.YtjhmfljlclajnacGreatDoor
