/- Part of the proof: DecA. -/
import Derived.Test.YtjhmfljlclajnacDoorUDecP2
import Derived.Test.YtjhmfljlclajnacDoorUBits
import Derived.Test.YtjhmfljlclajnacDoorUEnc
import Derived.Test.YtjhmfljlclajnacDoorURegCall
import Derived.Test.YtjhmfljlclajnacDoorURing
import Derived.Test.YtjhmfljlclajnacDoorUMarks
set_option linter.unusedVariables false
set_option linter.unusedSimpArgs false
namespace Go.Proofs.YtjhmfljlclajnacDoor
open Go.RowKit Wb
set_option maxRecDepth 100000
theorem ok_ext {s : ByteArray} (hs : okS s) : s.extract 0 4 = ⟨#[87, 66, 75, 49]⟩ := by
 apply ba_ext
 rw [ByteArray.data_extract, Array.toList_extract]
 simpa [magic] using hs.2
theorem ba_ne {x y : ByteArray} (h : x ≠ y) : (!x.toList == y.toList) = true := by
 rw [Bool.not_eq_true', beq_eq_false_iff_ne]
 intro hh
 rw [Lib.toList_data, Lib.toList_data] at hh
 exact h (ba_ext hh)
theorem RMark.plain (w : World) (k q a : Int) : RMark w (.agg #[.int .i64 k, .int .i64 q, .int .i64 a, .slice none 0 0, .slice none 0 0]) ⟨k, q, a, [], []⟩ := ⟨_, _, rfl, RL.nil _ _, RL.nil _ _, Nat.zero_le _, Nat.zero_le _⟩
theorem tags_step (s : ByteArray) (k : Nat) : rawTags s (k + 1) = rawTags s k ++ [tagAt s k] := rawTags_succ s k
theorem blks_step (s : ByteArray) {j : Nat} (h : 10 ≤ j) : rawBlks s (j + 1 - 10) = rawBlks s (j - 10) ++ [nb s j] := by
 rw [show j + 1 - 10 = (j - 10) + 1 by omega, rawBlks_succ, show 10 + (j - 10) = j by omega]
def OMark (base : Nat) (w : World) (v : Value) (m : Mrk) : Prop :=
 ∃ vt vb, v = .agg #[.int .i64 m.kind, .int .i64 m.seq, .int .i64 m.at_, vt, vb] ∧ Wb.Own tagC base 103 2 w vt m.tags ∧ Wb.Own intC base 3 1 w vb m.blocks ∧ m.tags.length ≤ 11 ∧ m.blocks.length ≤ 22
theorem OMark.reads {base : Nat} {w : World} {v : Value} {m : Mrk} (h : OMark base w v m) : RMark w v m := by
 obtain ⟨vt, vb, hv, h1, h2, h3, h4⟩ := h
 exact ⟨vt, vb, hv, h1.reads, h2.reads, by omega, by omega⟩
theorem OMark.below {base : Nat} {w w' : World} {v : Value} {m : Mrk} (h : OMark base w v m) (hb : Below w.heap.size w w') : OMark base w' v m := by
 obtain ⟨vt, vb, hv, h1, h2, h3⟩ := h
 exact ⟨vt, vb, hv, h1.below hb, h2.below hb, h3⟩
theorem OMark.plain (base : Nat) (w : World) (k q a : Int) : OMark base w (.agg #[.int .i64 k, .int .i64 q, .int .i64 a, .slice none 0 0, .slice none 0 0]) ⟨k, q, a, [], []⟩ := ⟨_, _, rfl, Own.nil _ _ _ _ _, Own.nil _ _ _ _ _, Nat.zero_le _, Nat.zero_le _⟩
def DecAt (s : ByteArray) (w0 wx : World) : Prop :=
 ∃ vt vb, Wb.Own tagC (w0.heap.size + 2) 103 2 wx vt (rawM s).tags ∧ Wb.Own intC (w0.heap.size + 2) 3 1 wx vb (rawM s).blocks ∧ Blk wx w0.heap.size #[.int .i64 0, .int .i64 0, .int .i64 0, .slice none 0 0, .slice none 0 0] 69 ∧ Blk wx (w0.heap.size + 1) #[.int .i64 (rawM s).kind, .int .i64 (rawM s).seq, .int .i64 (rawM s).at_, vt, vb] 69 ∧ Below w0.heap.size w0 wx
theorem DecAt.of {s : ByteArray} {w0 wx : World} {k q a : Int} {tags : List Tag} {blocks : List Int} {vt vb : Value} (hR : rawM s = ⟨k, q, a, tags, blocks⟩) (h1 : Wb.Own tagC (w0.heap.size + 2) 103 2 wx vt tags) (h2 : Wb.Own intC (w0.heap.size + 2) 3 1 wx vb blocks)
    (kr : Blk wx w0.heap.size #[.int .i64 0, .int .i64 0, .int .i64 0, .slice none 0 0, .slice none 0 0] 69) (km : Blk wx (w0.heap.size + 1) #[.int .i64 k, .int .i64 q, .int .i64 a, vt, vb] 69) (nx : Below w0.heap.size w0 wx) : DecAt s w0 wx :=
 ⟨vt, vb, by rw [hR]; exact h1, by rw [hR]; exact h2, kr, by rw [hR]; exact km, nx⟩
end Go.Proofs.YtjhmfljlclajnacDoor
