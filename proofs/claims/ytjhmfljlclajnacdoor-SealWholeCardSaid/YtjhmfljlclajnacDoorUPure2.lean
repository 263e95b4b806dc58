/- Part of the proof: Pure2. -/
import Derived.Test.YtjhmfljlclajnacDoorUPure
import Derived.Test.YtjhmfljlclajnacDoorUFitP
set_option linter.unusedVariables false
set_option linter.unusedSimpArgs false
namespace Wb
open Go Go.RowKit
def magic : List UInt8 := [87, 66, 75, 49]
def headL (m : Mrk) : List UInt8 := magic ++ [byte m.kind, byte (m.seq / 16777216), byte (m.seq / 65536), byte (m.seq / 256), byte m.seq]
def tagB (t : Tag) : List UInt8 := [byte t.block, if t.esc then 1 else 0]
theorem tagBs_len (l : List Tag) : (l.flatMap tagB).length = l.length * 2 := by
 induction l with
 | nil => rfl
 | cons x l ih => rw [List.flatMap_cons, List.length_append, ih, List.length_cons]; show 2 + _ = _; omega
def bodyL (m : Mrk) : List UInt8 :=
 if m.kind = 1 then [byte m.at_] else if m.kind = 2 then [byte m.tags.length] ++ m.tags.flatMap tagB else if m.kind = 3 then [byte m.blocks.length] ++ m.blocks.map byte else []
def markL (m : Mrk) : List UInt8 := fitL (headL m ++ bodyL m)
def markS (m : Mrk) : ByteArray := if markE m = 0 then str (markL m) else str []
theorem markE_good {m : Mrk} (hE : markE m = 0) : ¬ badKind m ∧ ¬ badNum m ∧ ¬ badForm m ∧ ¬ badLen m := by
 refine ⟨fun h => ?_, fun h => ?_, fun h => ?_, fun h => ?_⟩
 ·rw [markE_kind h] at hE; exact absurd hE (by decide)
 ·by_cases h1 : badKind m
  ·rw [markE_kind h1] at hE; exact absurd hE (by decide)
  ·rw [markE_num h1 h] at hE; exact absurd hE (by decide)
 ·by_cases h1 : badKind m
  ·rw [markE_kind h1] at hE; exact absurd hE (by decide)
  ·by_cases h2 : badNum m
   ·rw [markE_num h1 h2] at hE; exact absurd hE (by decide)
   ·rw [markE_form h1 h2 h] at hE; exact absurd hE (by decide)
 ·by_cases h1 : badKind m
  ·rw [markE_kind h1] at hE; exact absurd hE (by decide)
  ·by_cases h2 : badNum m
   ·rw [markE_num h1 h2] at hE; exact absurd hE (by decide)
   ·by_cases h3 : badForm m
    ·rw [markE_form h1 h2 h3] at hE; exact absurd hE (by decide)
    ·rw [markE_len h1 h2 h3 h] at hE; exact absurd hE (by decide)
theorem markL_len (m : Mrk) : (markL m).length = 32 := fitL_len _
theorem fit_str (l : List UInt8) : fit (str l) = str (fitL l) := by simp [fit, str]
end Wb
