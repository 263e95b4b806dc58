/-
  No cell of these rows narrows 'for every input' (looked for: loops, veiled, ifaces, maps, wideKeys, modest, calm, conditions, laid).
  DERIVED. THE GIVEN ROWS OF THIS SEAT. 11 by the template 'for every input the law returns true; each argument reads behind the call as it read before'; 0 by the template 'total and deterministic' (their statements: YtjhmfljlclajnaaTotals.lean).
  GIVEN WITH THE SEED: the statements are not yours to turn. If you find one false, say at which input.
  Laid BY PROGRAM, IN A SANDBOX (cutbox-rows.mjs): the forced cells as the released guide's own fill.sh prints them over the translation 07dcad9ea9da091d… (all of the seat's roots in one cut). By AI agents, Wed Nov 11 2026. No macro, syntax, notation, axiom, sorry.
-/
import Derived.Test.YtjhmfljlclajnaaChecked
import GoSem.Claim
import GoSem.ClaimJoined
import GoSem.ClaimMapViews
import Derived.JoinedTies
import Derived.KernelRfl
namespace Go.Proofs.Ytjhmfljlclajnaa
/- THE CELL 'sum', in the pinned program and in every row, IS THE sha256 OF THE DUMP (.gsa) THAT YtjhmfljlclajnaaProg.lean LOADS. Nothing in Lean hashes anything: it is a label: what it is worth is what the hold of that sum in a sandbox is worth. -/
noncomputable def Try.pinned : Pinned := { name := "ytjhmfljlclajnaa", sum := "07dcad9ea9da091d9446a7c7b04d87e9dc378cbdab7c8add7fe3dbf387ba43b5", checked := Try.checked }
namespace Rows
def none {H : Type} : Left H := { results := [], args := [] }

/-- 'wastebooklaw.Names': WHATEVER THE INPUT: true; the input reads as it did. -/
def namesSpec : ChangeSpec := { name := "names", fn := fun _ => fun
  | [] => { results := [.lit (.bool true)], args := [] }
  | _ => none }
def namesRow : OpenClaim := { program := "ytjhmfljlclajnaa", sum := "07dcad9ea9da091d9446a7c7b04d87e9dc378cbdab7c8add7fe3dbf387ba43b5", func := "wastebook/wastebooklaw.Names", spec := "names", apart := false }
def NamesSaid : Prop := namesRow.holds Try.pinned (OpenSpec.ofChange namesSpec)

/-- ITS FALSE NEIGHBOUR: 'it returns false'. Refute it at one input. -/
def namesWrong : ChangeSpec := { name := "names", fn := fun _ => fun
  | [] => { results := [.lit (.bool false)], args := [] }
  | _ => none }
def NamesWrongFalsely : Prop := namesRow.holds Try.pinned (OpenSpec.ofChange namesWrong)

/-- 'wastebooklaw.RingTakes': WHATEVER THE INPUT: true; the input reads as it did. -/
def ringTakesSpec : ChangeSpec := { name := "ringTakes", fn := fun _ => fun
  | [d1, d2] => { results := [.lit (.bool true)], args := [d1, d2] }
  | _ => none }
def ringTakesRow : OpenClaim := { program := "ytjhmfljlclajnaa", sum := "07dcad9ea9da091d9446a7c7b04d87e9dc378cbdab7c8add7fe3dbf387ba43b5", func := "wastebook/wastebooklaw.RingTakes", spec := "ringTakes", apart := false }
def RingTakesSaid : Prop := ringTakesRow.holds Try.pinned (OpenSpec.ofChange ringTakesSpec)

/-- ITS FALSE NEIGHBOUR: 'it returns false'. Refute it at one input. -/
def ringTakesWrong : ChangeSpec := { name := "ringTakes", fn := fun _ => fun
  | [d1, d2] => { results := [.lit (.bool false)], args := [d1, d2] }
  | _ => none }
def RingTakesWrongFalsely : Prop := ringTakesRow.holds Try.pinned (OpenSpec.ofChange ringTakesWrong)

/-- 'wastebookkeep.RingParts': WHATEVER THE INPUT: true; the input reads as it did. -/
def ringPartsSpec : ChangeSpec := { name := "ringParts", fn := fun _ => fun
  | [d1, d2, d3] => { results := [.lit (.bool true)], args := [d1, d2, d3] }
  | _ => none }
def ringPartsRow : OpenClaim := { program := "ytjhmfljlclajnaa", sum := "07dcad9ea9da091d9446a7c7b04d87e9dc378cbdab7c8add7fe3dbf387ba43b5", func := "wastebook/wastebookkeep.RingParts", spec := "ringParts", apart := false }
def RingPartsSaid : Prop := ringPartsRow.holds Try.pinned (OpenSpec.ofChange ringPartsSpec)

/-- ITS FALSE NEIGHBOUR: 'it returns false'. Refute it at one input. -/
def ringPartsWrong : ChangeSpec := { name := "ringParts", fn := fun _ => fun
  | [d1, d2, d3] => { results := [.lit (.bool false)], args := [d1, d2, d3] }
  | _ => none }
def RingPartsWrongFalsely : Prop := ringPartsRow.holds Try.pinned (OpenSpec.ofChange ringPartsWrong)

/-- 'wastebooklaw.RingNeeds': WHATEVER THE INPUT: true; the input reads as it did. -/
def ringNeedsSpec : ChangeSpec := { name := "ringNeeds", fn := fun _ => fun
  | [d1, d2] => { results := [.lit (.bool true)], args := [d1, d2] }
  | _ => none }
def ringNeedsRow : OpenClaim := { program := "ytjhmfljlclajnaa", sum := "07dcad9ea9da091d9446a7c7b04d87e9dc378cbdab7c8add7fe3dbf387ba43b5", func := "wastebook/wastebooklaw.RingNeeds", spec := "ringNeeds", apart := false }
def RingNeedsSaid : Prop := ringNeedsRow.holds Try.pinned (OpenSpec.ofChange ringNeedsSpec)

/-- ITS FALSE NEIGHBOUR: 'it returns false'. Refute it at one input. -/
def ringNeedsWrong : ChangeSpec := { name := "ringNeeds", fn := fun _ => fun
  | [d1, d2] => { results := [.lit (.bool false)], args := [d1, d2] }
  | _ => none }
def RingNeedsWrongFalsely : Prop := ringNeedsRow.holds Try.pinned (OpenSpec.ofChange ringNeedsWrong)

/-- 'wastebooklaw.FormMarks': WHATEVER THE INPUT: true; the input reads as it did. -/
def formMarksSpec : ChangeSpec := { name := "formMarks", fn := fun _ => fun
  | [d] => { results := [.lit (.bool true)], args := [d] }
  | _ => none }
def formMarksRow : OpenClaim := { program := "ytjhmfljlclajnaa", sum := "07dcad9ea9da091d9446a7c7b04d87e9dc378cbdab7c8add7fe3dbf387ba43b5", func := "wastebook/wastebooklaw.FormMarks", spec := "formMarks", inPlace := ["internal/abi.NoEscape", "internal/bytealg.MakeNoZero"], apart := false }
def FormMarksSaid : Prop := formMarksRow.holds Try.pinned (OpenSpec.ofChange formMarksSpec)

/-- ITS FALSE NEIGHBOUR: 'it returns false'. Refute it at one input. -/
def formMarksWrong : ChangeSpec := { name := "formMarks", fn := fun _ => fun
  | [d] => { results := [.lit (.bool false)], args := [d] }
  | _ => none }
def FormMarksWrongFalsely : Prop := formMarksRow.holds Try.pinned (OpenSpec.ofChange formMarksWrong)

/-- 'wastebooklaw.FormEscapes': WHATEVER THE INPUT: true; the input reads as it did. -/
def formEscapesSpec : ChangeSpec := { name := "formEscapes", fn := fun _ => fun
  | [d1, d2] => { results := [.lit (.bool true)], args := [d1, d2] }
  | _ => none }
def formEscapesRow : OpenClaim := { program := "ytjhmfljlclajnaa", sum := "07dcad9ea9da091d9446a7c7b04d87e9dc378cbdab7c8add7fe3dbf387ba43b5", func := "wastebook/wastebooklaw.FormEscapes", spec := "formEscapes", inPlace := ["internal/abi.NoEscape", "internal/bytealg.MakeNoZero"], apart := false }
def FormEscapesSaid : Prop := formEscapesRow.holds Try.pinned (OpenSpec.ofChange formEscapesSpec)

/-- ITS FALSE NEIGHBOUR: 'it returns false'. Refute it at one input. -/
def formEscapesWrong : ChangeSpec := { name := "formEscapes", fn := fun _ => fun
  | [d1, d2] => { results := [.lit (.bool false)], args := [d1, d2] }
  | _ => none }
def FormEscapesWrongFalsely : Prop := formEscapesRow.holds Try.pinned (OpenSpec.ofChange formEscapesWrong)

/-- 'wastebookkeep.DiskWrites': WHATEVER THE INPUT: true; the input reads as it did. -/
def diskWritesSpec : ChangeSpec := { name := "diskWrites", fn := fun _ => fun
  | [d1, d2, d3, d4] => { results := [.lit (.bool true)], args := [d1, d2, d3, d4] }
  | _ => none }
def diskWritesRow : OpenClaim := { program := "ytjhmfljlclajnaa", sum := "07dcad9ea9da091d9446a7c7b04d87e9dc378cbdab7c8add7fe3dbf387ba43b5", func := "wastebook/wastebookkeep.DiskWrites", spec := "diskWrites", inPlace := ["internal/abi.NoEscape", "internal/bytealg.MakeNoZero"], unfollowed := true, recurses := true, apart := false }
def DiskWritesSaid : Prop := diskWritesRow.holds Try.pinned (OpenSpec.ofChange diskWritesSpec)

/-- ITS FALSE NEIGHBOUR: 'it returns false'. Refute it at one input. -/
def diskWritesWrong : ChangeSpec := { name := "diskWrites", fn := fun _ => fun
  | [d1, d2, d3, d4] => { results := [.lit (.bool false)], args := [d1, d2, d3, d4] }
  | _ => none }
def DiskWritesWrongFalsely : Prop := diskWritesRow.holds Try.pinned (OpenSpec.ofChange diskWritesWrong)

/-- 'wastebooklaw.DiskDoes': WHATEVER THE INPUT: true; the input reads as it did. -/
def diskDoesSpec : ChangeSpec := { name := "diskDoes", fn := fun _ => fun
  | [d1, d2, d3] => { results := [.lit (.bool true)], args := [d1, d2, d3] }
  | _ => none }
def diskDoesRow : OpenClaim := { program := "ytjhmfljlclajnaa", sum := "07dcad9ea9da091d9446a7c7b04d87e9dc378cbdab7c8add7fe3dbf387ba43b5", func := "wastebook/wastebooklaw.DiskDoes", spec := "diskDoes", inPlace := ["internal/abi.NoEscape", "internal/bytealg.MakeNoZero"], unfollowed := true, recurses := true, apart := false }
def DiskDoesSaid : Prop := diskDoesRow.holds Try.pinned (OpenSpec.ofChange diskDoesSpec)

/-- ITS FALSE NEIGHBOUR: 'it returns false'. Refute it at one input. -/
def diskDoesWrong : ChangeSpec := { name := "diskDoes", fn := fun _ => fun
  | [d1, d2, d3] => { results := [.lit (.bool false)], args := [d1, d2, d3] }
  | _ => none }
def DiskDoesWrongFalsely : Prop := diskDoesRow.holds Try.pinned (OpenSpec.ofChange diskDoesWrong)

/-- 'wastebooklaw.FormReads': WHATEVER THE INPUT: true; the input reads as it did. -/
def formReadsSpec : ChangeSpec := { name := "formReads", fn := fun _ => fun
  | [d] => { results := [.lit (.bool true)], args := [d] }
  | _ => none }
def formReadsRow : OpenClaim := { program := "ytjhmfljlclajnaa", sum := "07dcad9ea9da091d9446a7c7b04d87e9dc378cbdab7c8add7fe3dbf387ba43b5", func := "wastebook/wastebooklaw.FormReads", spec := "formReads", inPlace := ["internal/abi.NoEscape", "internal/bytealg.MakeNoZero"], unfollowed := true, recurses := true, apart := false }
def FormReadsSaid : Prop := formReadsRow.holds Try.pinned (OpenSpec.ofChange formReadsSpec)

/-- ITS FALSE NEIGHBOUR: 'it returns false'. Refute it at one input. -/
def formReadsWrong : ChangeSpec := { name := "formReads", fn := fun _ => fun
  | [d] => { results := [.lit (.bool false)], args := [d] }
  | _ => none }
def FormReadsWrongFalsely : Prop := formReadsRow.holds Try.pinned (OpenSpec.ofChange formReadsWrong)

/-- 'wastebookkeep.FormBack': WHATEVER THE INPUT: true; the input reads as it did. -/
def formBackSpec : ChangeSpec := { name := "formBack", fn := fun _ => fun
  | [d] => { results := [.lit (.bool true)], args := [d] }
  | _ => none }
def formBackRow : OpenClaim := { program := "ytjhmfljlclajnaa", sum := "07dcad9ea9da091d9446a7c7b04d87e9dc378cbdab7c8add7fe3dbf387ba43b5", func := "wastebook/wastebookkeep.FormBack", spec := "formBack", inPlace := ["internal/abi.NoEscape", "internal/bytealg.MakeNoZero"], apart := false }
def FormBackSaid : Prop := formBackRow.holds Try.pinned (OpenSpec.ofChange formBackSpec)

/-- ITS FALSE NEIGHBOUR: 'it returns false'. Refute it at one input. -/
def formBackWrong : ChangeSpec := { name := "formBack", fn := fun _ => fun
  | [d] => { results := [.lit (.bool false)], args := [d] }
  | _ => none }
def FormBackWrongFalsely : Prop := formBackRow.holds Try.pinned (OpenSpec.ofChange formBackWrong)

/-- 'wastebookkeep.FormOnly': WHATEVER THE INPUT: true; the input reads as it did. -/
def formOnlySpec : ChangeSpec := { name := "formOnly", fn := fun _ => fun
  | [d] => { results := [.lit (.bool true)], args := [d] }
  | _ => none }
def formOnlyRow : OpenClaim := { program := "ytjhmfljlclajnaa", sum := "07dcad9ea9da091d9446a7c7b04d87e9dc378cbdab7c8add7fe3dbf387ba43b5", func := "wastebook/wastebookkeep.FormOnly", spec := "formOnly", inPlace := ["internal/abi.NoEscape", "internal/bytealg.MakeNoZero"], apart := false }
def FormOnlySaid : Prop := formOnlyRow.holds Try.pinned (OpenSpec.ofChange formOnlySpec)

/-- ITS FALSE NEIGHBOUR: 'it returns false'. Refute it at one input. -/
def formOnlyWrong : ChangeSpec := { name := "formOnly", fn := fun _ => fun
  | [d] => { results := [.lit (.bool false)], args := [d] }
  | _ => none }
def FormOnlyWrongFalsely : Prop := formOnlyRow.holds Try.pinned (OpenSpec.ofChange formOnlyWrong)

/- THE SECOND FORM. 'bulk': how many values and letters a reading holds, each counted each time it is reached (what is shared counts as often as it is met; a slice's spare places count too). A statement '..UptoSaid' is the law's where the arguments, and the package variables that the reading takes, are together of bulk at most 1048576: NARROWER than '..Said'. Prove '..Said' where nothing that the law and all that it calls make is longer than what came in: it says more and counts as full. Else prove '..UptoSaid'. A law counts once. -/
mutual
def uptoBulk {H : Type} : DataW H → Nat
  | .lit (.string bytes) => bytes.length + 1
  | .lit _ => 1
  | .nil => 1
  | .ptr d => uptoBulk d + 1
  | .slice elems spare => uptoBulkAll elems + uptoBulkAll spare + 1
  | .agg parts => uptoBulkAll parts + 1
  | .iface _ d => uptoBulk d + 1
  | .map entries => uptoBulkEntries entries + 1
  | .held _ => 1
def uptoBulkAll {H : Type} : List (DataW H) → Nat
  | [] => 0
  | d :: r => uptoBulk d + uptoBulkAll r
def uptoBulkEntries {H : Type} : List (Lit × DataW H) → Nat
  | [] => 0
  | x :: r => uptoBulkEntry x + uptoBulkEntries r
def uptoBulkEntry {H : Type} : Lit × DataW H → Nat
  | (.string bytes, d) => bytes.length + uptoBulk d + 1
  | (_, d) => uptoBulk d + 1
 end
def uptoSmall : (H : Type) → List (DataW H) → Bool := fun _ ds => decide (uptoBulkAll ds ≤ 1048576)
def OpenSpec.upto (s : _root_.Go.ChangeSpec) : _root_.Go.OpenSpec := { _root_.Go.OpenSpec.ofChange s with cond := some uptoSmall }

/-- 'wastebooklaw.Names', WHERE WHAT IT READS IS OF BULK AT MOST 1048576: true; the input reads as it did. -/
def namesUptoRow : OpenClaim := { program := "ytjhmfljlclajnaa", sum := "07dcad9ea9da091d9446a7c7b04d87e9dc378cbdab7c8add7fe3dbf387ba43b5", func := "wastebook/wastebooklaw.Names", spec := "names", apart := false, narrowed := true }
def NamesUptoSaid : Prop := namesUptoRow.holds Try.pinned (OpenSpec.upto namesSpec)

/-- 'wastebooklaw.RingTakes', WHERE WHAT IT READS IS OF BULK AT MOST 1048576: true; the input reads as it did. -/
def ringTakesUptoRow : OpenClaim := { program := "ytjhmfljlclajnaa", sum := "07dcad9ea9da091d9446a7c7b04d87e9dc378cbdab7c8add7fe3dbf387ba43b5", func := "wastebook/wastebooklaw.RingTakes", spec := "ringTakes", apart := false, narrowed := true }
def RingTakesUptoSaid : Prop := ringTakesUptoRow.holds Try.pinned (OpenSpec.upto ringTakesSpec)

/-- 'wastebookkeep.RingParts', WHERE WHAT IT READS IS OF BULK AT MOST 1048576: true; the input reads as it did. -/
def ringPartsUptoRow : OpenClaim := { program := "ytjhmfljlclajnaa", sum := "07dcad9ea9da091d9446a7c7b04d87e9dc378cbdab7c8add7fe3dbf387ba43b5", func := "wastebook/wastebookkeep.RingParts", spec := "ringParts", apart := false, narrowed := true }
def RingPartsUptoSaid : Prop := ringPartsUptoRow.holds Try.pinned (OpenSpec.upto ringPartsSpec)

/-- 'wastebooklaw.RingNeeds', WHERE WHAT IT READS IS OF BULK AT MOST 1048576: true; the input reads as it did. -/
def ringNeedsUptoRow : OpenClaim := { program := "ytjhmfljlclajnaa", sum := "07dcad9ea9da091d9446a7c7b04d87e9dc378cbdab7c8add7fe3dbf387ba43b5", func := "wastebook/wastebooklaw.RingNeeds", spec := "ringNeeds", apart := false, narrowed := true }
def RingNeedsUptoSaid : Prop := ringNeedsUptoRow.holds Try.pinned (OpenSpec.upto ringNeedsSpec)

/-- 'wastebooklaw.FormMarks', WHERE WHAT IT READS IS OF BULK AT MOST 1048576: true; the input reads as it did. -/
def formMarksUptoRow : OpenClaim := { program := "ytjhmfljlclajnaa", sum := "07dcad9ea9da091d9446a7c7b04d87e9dc378cbdab7c8add7fe3dbf387ba43b5", func := "wastebook/wastebooklaw.FormMarks", spec := "formMarks", inPlace := ["internal/abi.NoEscape", "internal/bytealg.MakeNoZero"], apart := false, narrowed := true }
def FormMarksUptoSaid : Prop := formMarksUptoRow.holds Try.pinned (OpenSpec.upto formMarksSpec)

/-- 'wastebooklaw.FormEscapes', WHERE WHAT IT READS IS OF BULK AT MOST 1048576: true; the input reads as it did. -/
def formEscapesUptoRow : OpenClaim := { program := "ytjhmfljlclajnaa", sum := "07dcad9ea9da091d9446a7c7b04d87e9dc378cbdab7c8add7fe3dbf387ba43b5", func := "wastebook/wastebooklaw.FormEscapes", spec := "formEscapes", inPlace := ["internal/abi.NoEscape", "internal/bytealg.MakeNoZero"], apart := false, narrowed := true }
def FormEscapesUptoSaid : Prop := formEscapesUptoRow.holds Try.pinned (OpenSpec.upto formEscapesSpec)

/-- 'wastebookkeep.DiskWrites', WHERE WHAT IT READS IS OF BULK AT MOST 1048576: true; the input reads as it did. -/
def diskWritesUptoRow : OpenClaim := { program := "ytjhmfljlclajnaa", sum := "07dcad9ea9da091d9446a7c7b04d87e9dc378cbdab7c8add7fe3dbf387ba43b5", func := "wastebook/wastebookkeep.DiskWrites", spec := "diskWrites", inPlace := ["internal/abi.NoEscape", "internal/bytealg.MakeNoZero"], unfollowed := true, recurses := true, apart := false, narrowed := true }
def DiskWritesUptoSaid : Prop := diskWritesUptoRow.holds Try.pinned (OpenSpec.upto diskWritesSpec)

/-- 'wastebooklaw.DiskDoes', WHERE WHAT IT READS IS OF BULK AT MOST 1048576: true; the input reads as it did. -/
def diskDoesUptoRow : OpenClaim := { program := "ytjhmfljlclajnaa", sum := "07dcad9ea9da091d9446a7c7b04d87e9dc378cbdab7c8add7fe3dbf387ba43b5", func := "wastebook/wastebooklaw.DiskDoes", spec := "diskDoes", inPlace := ["internal/abi.NoEscape", "internal/bytealg.MakeNoZero"], unfollowed := true, recurses := true, apart := false, narrowed := true }
def DiskDoesUptoSaid : Prop := diskDoesUptoRow.holds Try.pinned (OpenSpec.upto diskDoesSpec)

/-- 'wastebooklaw.FormReads', WHERE WHAT IT READS IS OF BULK AT MOST 1048576: true; the input reads as it did. -/
def formReadsUptoRow : OpenClaim := { program := "ytjhmfljlclajnaa", sum := "07dcad9ea9da091d9446a7c7b04d87e9dc378cbdab7c8add7fe3dbf387ba43b5", func := "wastebook/wastebooklaw.FormReads", spec := "formReads", inPlace := ["internal/abi.NoEscape", "internal/bytealg.MakeNoZero"], unfollowed := true, recurses := true, apart := false, narrowed := true }
def FormReadsUptoSaid : Prop := formReadsUptoRow.holds Try.pinned (OpenSpec.upto formReadsSpec)

/-- 'wastebookkeep.FormBack', WHERE WHAT IT READS IS OF BULK AT MOST 1048576: true; the input reads as it did. -/
def formBackUptoRow : OpenClaim := { program := "ytjhmfljlclajnaa", sum := "07dcad9ea9da091d9446a7c7b04d87e9dc378cbdab7c8add7fe3dbf387ba43b5", func := "wastebook/wastebookkeep.FormBack", spec := "formBack", inPlace := ["internal/abi.NoEscape", "internal/bytealg.MakeNoZero"], apart := false, narrowed := true }
def FormBackUptoSaid : Prop := formBackUptoRow.holds Try.pinned (OpenSpec.upto formBackSpec)

/-- 'wastebookkeep.FormOnly', WHERE WHAT IT READS IS OF BULK AT MOST 1048576: true; the input reads as it did. -/
def formOnlyUptoRow : OpenClaim := { program := "ytjhmfljlclajnaa", sum := "07dcad9ea9da091d9446a7c7b04d87e9dc378cbdab7c8add7fe3dbf387ba43b5", func := "wastebook/wastebookkeep.FormOnly", spec := "formOnly", inPlace := ["internal/abi.NoEscape", "internal/bytealg.MakeNoZero"], apart := false, narrowed := true }
def FormOnlyUptoSaid : Prop := formOnlyUptoRow.holds Try.pinned (OpenSpec.upto formOnlySpec)

end Rows
end Go.Proofs.Ytjhmfljlclajnaa
