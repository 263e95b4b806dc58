/- DERIVED: THE SHELF's CONTRACTS AT THIS DUMP, IN PLAIN WORDS (tools/lay-plain.mjs out of 'TryYtjhmfljlclajnacShelfRaw.lean', which tools/lay-shelf.mjs wrote): THE SAME DECLARATIONS UNDER THE SAME NAMES: 'import', 'namespace', 'open', 'def', 'theorem' AND NOTHING ELSE: no command of the shelf's: FOR A HAND-IN. Each laying: the table of numbers ('.._ren') and one theorem, a field a fact of the dump's own or the kernel's comparison; each contract: ONE APPLICATION. The walk of disk.Fit. The walk of the law's names: does txn answer at all? The walk of keep's names. The walk of BeginTxn. Three handles are what they are. The walks of SameCopies and SameTxn, at two that are alike. The walk of the law TxnBegins. The walks of the ring that take places. The walks of the ring that give back; whether the ring answers at all. Whether the ring answers at all; the law on Need and Most. Maps keyed by ints: what a block of a map holds, as a function. No program in sight. The law on what is taken in two parts. -/
import Derived.Shelf.Strings.Builder1
import Derived.Shelf.Strings.Builder2
import Derived.Shelf.Strings.BuilderF
import Derived.Shelf.Strings.Prefix
import Derived.Shelf.Bits.Mul64
import Derived.Shelf.Strings.Repeat
import Derived.Ground.Names2Prog
import Derived.Shelf.Slices.Clone
import Derived.Test.YtjhmfljlclajnacProg
import Derived.Test.YtjhmfljlclajnacKTxnFits8
import Derived.Test.YtjhmfljlclajnacKTxnFits6
import Derived.Test.YtjhmfljlclajnacKTxnFits7
import Derived.Test.YtjhmfljlclajnacKTxnFits4
import Derived.Test.YtjhmfljlclajnacKTxnFits0
import Derived.Test.YtjhmfljlclajnacChecked
import Derived.ChangeKeysEq
import Derived.Test.YtjhmfljlclajnacKTxnFits1
import Derived.Deep.QuietTactic
import Derived.BigQuiet
import Derived.Test.YtjhmfljlclajnacKTxnFits2
import Derived.MapKept
import Derived.ChangeMaps5
import Derived.Carry
import Derived.Maps.OwnOps
namespace Go.Proofs
open Go.Shelf
def Try.lays170_ren : Go.Shelf.Ren := ⟨fun | 170 => 67 | n => n, fun | 70 => 92 | 3 => 3 | 0 => 0 | 72 => 95 | 37 => 93 | 5 => 5 | n => n, fun | n => n⟩
theorem Try.lays170 : Go.Proofs.Lays.n170 Try.prog Try.lays170_ren := {
  mixed := by kernel_rfl
  f170 := Try.func67.trans (congrArg some (by kernel_rfl))
  t0 := Try.underlying0
  a0 := Try.isAgg0
  z0 := Try.sizeOf0
  v0 := Try.zeroValue0
  t3 := Try.underlying3
  a3 := Try.isAgg3
  z3 := Try.sizeOf3
  v3 := Try.zeroValue3
  t37 := Try.underlying93
  a37 := Try.isAgg93
  z37 := Try.sizeOf93
  v37 := Try.zeroValue93
  t70 := Try.underlying92
  a70 := Try.isAgg92
  z70 := Try.sizeOf92
  v70 := Try.zeroValue92
  t72 := Try.underlying95
  a72 := Try.isAgg95
  z72 := Try.sizeOf95
  v72 := Try.zeroValue95 }
open Go.RowKit in
/-- (*strings.Builder).Len: "Len returns the number of accumulated bytes; b.Len() == len(b.String()).": the world is as it was. (LAID: no walk: one application.) -/
theorem Try.Builder_Len (B b : Nat) (bs : List Value) (w : World) (h : Lib.IsBuilder 95 5 B b bs w) :
    Calls Try.prog 67 #[.pointer (some ⟨b, 0, none⟩)] w fun e w' => e = .returned (.int .i64 bs.length) ∧ w' = w := Any.Builder_Len Try.lays170 B b bs w h
def Try.lays169_ren : Go.Shelf.Ren := ⟨fun | 169 => 68 | n => n, fun | 70 => 92 | 9 => 9 | 0 => 0 | 72 => 95 | 37 => 93 | 127 => 114 | 3 => 3 | 5 => 5 | n => n, fun | n => n⟩
theorem Try.lays169 : Go.Proofs.Lays.n169 Try.prog Try.lays169_ren := {
  mixed := by kernel_rfl
  f169 := Try.func68.trans (congrArg some (by kernel_rfl))
  t0 := Try.underlying0
  a0 := Try.isAgg0
  z0 := Try.sizeOf0
  v0 := Try.zeroValue0
  t3 := Try.underlying3
  a3 := Try.isAgg3
  z3 := Try.sizeOf3
  v3 := Try.zeroValue3
  t9 := Try.underlying9
  a9 := Try.isAgg9
  z9 := Try.sizeOf9
  v9 := Try.zeroValue9
  t37 := Try.underlying93
  a37 := Try.isAgg93
  z37 := Try.sizeOf93
  v37 := Try.zeroValue93
  t70 := Try.underlying92
  a70 := Try.isAgg92
  z70 := Try.sizeOf92
  v70 := Try.zeroValue92
  t72 := Try.underlying95
  a72 := Try.isAgg95
  z72 := Try.sizeOf95
  v72 := Try.zeroValue95
  t127 := Try.underlying114
  a127 := Try.isAgg114
  z127 := Try.sizeOf114
  v127 := Try.zeroValue114 }
theorem Try.Builder_Extra_169 : Builder.Extra Try.prog Try.lays169_ren := {
  sizeBuilder := by kernel_rfl
  liesBuilder := by kernel_rfl
  t5 := Try.underlying5
  a5 := Try.isAgg5
  z5 := Try.sizeOf5
  v5 := Try.zeroValue5
  infoByte := by kernel_rfl
  cellsByte := by kernel_rfl
  sizeByte := by kernel_rfl
  neB5 := by decide }
open Go.RowKit in
/-- (*strings.Builder).String: "String returns the accumulated string.": OF A BUILDER THAT HOLDS AT LEAST ONE BYTE. ✋ THE MODEL FREEZES THOSE BYTES IN THE BUFFER (unsafe.String): a later write INTO them ends the model's run without an answer; a later append BEHIND them goes on. The statement's order of evaluation is drawn: one draw. (LAID: no walk: one application.) -/
theorem Try.Builder_String (B b : Nat) (l : List UInt8) (w : World) (h : Lib.IsBuilder 95 5 B b (Lib.byteCells l) w) (h0 : l ≠ []) :
    Calls Try.prog 68 #[.pointer (some ⟨b, 0, none⟩)] w fun e w' => e = .returned (.string ⟨l.toArray⟩) ∧ Below B w w' := Any.Builder_String Try.lays169 Try.Builder_Extra_169 B b l w h h0
open Go.RowKit in
/-- (*strings.Builder).String OF A BUILDER THAT HOLDS NO BYTE: the empty string. (Its buffer is nil, or a row of which it has taken nothing yet; where that row has NO capacity the model lays one new block for unsafe.SliceData's 'some address'.) One draw. (LAID: no walk: one application.) -/
theorem Try.Builder_String_empty (B b : Nat) (w : World) (h : Lib.IsBuilder 95 5 B b [] w) (hBw : B ≤ w.heap.size) :
    Calls Try.prog 68 #[.pointer (some ⟨b, 0, none⟩)] w fun e w' => e = .returned (.string ⟨#[]⟩) ∧ Below B w w' := Any.Builder_String_empty Try.lays169 Try.Builder_Extra_169 B b w h hBw
open Go.RowKit in
/-- (*strings.Builder).String: "String returns the accumulated string.": WHATEVER THE BUILDER HOLDS. (LAID: no walk: one application.) -/
theorem Try.Builder_String_any (B b : Nat) (l : List UInt8) (w : World) (h : Lib.IsBuilder 95 5 B b (Lib.byteCells l) w) (hBw : B ≤ w.heap.size) :
    Calls Try.prog 68 #[.pointer (some ⟨b, 0, none⟩)] w fun e w' => e = .returned (.string ⟨l.toArray⟩) ∧ Below B w w' := Any.Builder_String_any Try.lays169 Try.Builder_Extra_169 B b l w h hBw
def Try.lays241_ren : Go.Shelf.Ren := ⟨fun | 241 => 82 | 277 => 86 | n => n, fun | 70 => 92 | 3 => 3 | 0 => 0 | 72 => 95 | 37 => 93 | 5 => 5 | n => n, fun | n => n⟩
theorem Try.lays241 : Go.Proofs.Lays.n241 Try.prog Try.lays241_ren := {
  mixed := by kernel_rfl
  f241 := Try.func82.trans (congrArg some (by kernel_rfl))
  f277 := Try.func86.trans (congrArg some (by kernel_rfl))
  t0 := Try.underlying0
  a0 := Try.isAgg0
  z0 := Try.sizeOf0
  v0 := Try.zeroValue0
  t3 := Try.underlying3
  a3 := Try.isAgg3
  z3 := Try.sizeOf3
  v3 := Try.zeroValue3
  t37 := Try.underlying93
  a37 := Try.isAgg93
  z37 := Try.sizeOf93
  v37 := Try.zeroValue93
  t70 := Try.underlying92
  a70 := Try.isAgg92
  z70 := Try.sizeOf92
  v70 := Try.zeroValue92
  t72 := Try.underlying95
  a72 := Try.isAgg95
  z72 := Try.sizeOf95
  v72 := Try.zeroValue95 }
theorem Try.Builder_Extra_241 : Builder.Extra Try.prog Try.lays241_ren := {
  sizeBuilder := by kernel_rfl
  liesBuilder := by kernel_rfl
  t5 := Try.underlying5
  a5 := Try.isAgg5
  z5 := Try.sizeOf5
  v5 := Try.zeroValue5
  infoByte := by kernel_rfl
  cellsByte := by kernel_rfl
  sizeByte := by kernel_rfl
  neB5 := by decide }
open Go.RowKit in
/-- (*strings.Builder).grow (no doc but "grow copies the buffer to a new, larger buffer so that there are at least n bytes of capacity beyond len(b.buf)."): AT A BUILDER WITHOUT A BUFFER: a new row of whatever bytes for its buffer, none of them its own yet. Three draws. (LAID: no walk: one application.) -/
theorem Try.Builder_grow_fresh (B b n : Nat) (w : World) (hB : B ≤ b) (hbk : w.heap[b]? = some (.cells #[.pointer (some ⟨b, 0, none⟩), .slice none 0 0] 95 (0, 0))) (hBw : B ≤ w.heap.size) (hn : n ≤ 281474976710656) :
    Calls Try.prog 82 #[.pointer (some ⟨b, 0, none⟩), .int .i64 n] w fun e w' => e = .returned (.tuple #[]) ∧ (Lib.BuilderAt 95 5 B b (.pointer (some ⟨b, 0, none⟩)) [] w' ∧ Below B w w') := Any.Builder_grow_fresh Try.lays241 Try.Builder_Extra_241 B b n w hB hbk hBw hn
def Try.lays165_ren : Go.Shelf.Ren := ⟨fun | 165 => 65 | 240 => 81 | 241 => 82 | 276 => 85 | 277 => 86 | n => n, fun | 70 => 92 | 3 => 3 | 0 => 0 | 4 => 4 | 9 => 9 | 20 => 20 | 72 => 95 | 37 => 93 | 164 => 116 | 5 => 5 | n => n, fun | n => n⟩
theorem Try.lays165 : Go.Proofs.Lays.n165 Try.prog Try.lays165_ren := {
  mixed := by kernel_rfl
  f165 := Try.func65.trans (congrArg some (by kernel_rfl))
  f240 := Try.func81.trans (congrArg some (by kernel_rfl))
  f241 := Try.func82.trans (congrArg some (by kernel_rfl))
  f276 := Try.func85.trans (congrArg some (by kernel_rfl))
  f277 := Try.func86.trans (congrArg some (by kernel_rfl))
  t0 := Try.underlying0
  a0 := Try.isAgg0
  z0 := Try.sizeOf0
  v0 := Try.zeroValue0
  t3 := Try.underlying3
  a3 := Try.isAgg3
  z3 := Try.sizeOf3
  v3 := Try.zeroValue3
  t4 := Try.underlying4
  a4 := Try.isAgg4
  z4 := Try.sizeOf4
  v4 := Try.zeroValue4
  t9 := Try.underlying9
  a9 := Try.isAgg9
  z9 := Try.sizeOf9
  v9 := Try.zeroValue9
  t20 := Try.underlying20
  a20 := Try.isAgg20
  z20 := Try.sizeOf20
  v20 := Try.zeroValue20
  t37 := Try.underlying93
  a37 := Try.isAgg93
  z37 := Try.sizeOf93
  v37 := Try.zeroValue93
  t70 := Try.underlying92
  a70 := Try.isAgg92
  z70 := Try.sizeOf92
  v70 := Try.zeroValue92
  t72 := Try.underlying95
  a72 := Try.isAgg95
  z72 := Try.sizeOf95
  v72 := Try.zeroValue95
  t164 := Try.underlying116
  a164 := Try.isAgg116
  z164 := Try.sizeOf116
  v164 := Try.zeroValue116 }
theorem Try.Builder_Extra_165 : Builder.Extra Try.prog Try.lays165_ren := {
  sizeBuilder := by kernel_rfl
  liesBuilder := by kernel_rfl
  t5 := Try.underlying5
  a5 := Try.isAgg5
  z5 := Try.sizeOf5
  v5 := Try.zeroValue5
  infoByte := by kernel_rfl
  cellsByte := by kernel_rfl
  sizeByte := by kernel_rfl
  neB5 := by decide }
open Go.RowKit in
/-- (*strings.Builder).Grow AT A BUILDER THAT HAS NOT BEEN WRITTEN ('var b strings.Builder; b.Grow(n)'): "Grow grows b's capacity, if necessary, to guarantee space for another n bytes.": it holds no byte behind it as before it. (LAID: no walk: one application.) -/
theorem Try.Builder_Grow_fresh (B b n : Nat) (w : World) (hB : B ≤ b) (hbk : w.heap[b]? = some (.cells #[.pointer none, .slice none 0 0] 95 (0, 0))) (hBw : B ≤ w.heap.size) (hn : n ≤ 281474976710656) :
    Calls Try.prog 65 #[.pointer (some ⟨b, 0, none⟩), .int .i64 n] w fun e w' => e = .returned (.tuple #[]) ∧ (Lib.BuilderAt 95 5 B b (.pointer (some ⟨b, 0, none⟩)) [] w' ∧ Below B w w') := Any.Builder_Grow_fresh Try.lays165 Try.Builder_Extra_165 B b n w hB hbk hBw hn
open Go.RowKit in
/-- (*strings.Builder).Len: "Len returns the number of accumulated bytes; b.Len() == len(b.String()).": the world is as it was. (THE FORM '_f': 'Lib.IsBuilderF'.) (LAID: no walk: one application.) -/
theorem Try.Builder_Len_f (B b : Nat) (bs : List Value) (w : World) (h : Lib.IsBuilderF 95 5 B b bs w) :
    Calls Try.prog 67 #[.pointer (some ⟨b, 0, none⟩)] w fun e w' => e = .returned (.int .i64 bs.length) ∧ w' = w := Any.Builder_Len_f Try.lays170 B b bs w h
open Go.RowKit in
/-- (*strings.Builder).String: "String returns the accumulated string.": OF A BUILDER THAT HOLDS AT LEAST ONE BYTE. ✋ THE MODEL FREEZES THOSE BYTES IN THE BUFFER (unsafe.String): a later write INTO them ends the model's run without an answer; a later append BEHIND them goes on. The statement's order of evaluation is drawn: one draw. THE FORM '_f': IT SAYS BESIDES THAT THE BUILDER IS A BUILDER STILL ('Lib.IsBuilderF', the same bytes): SO IT CAN BE WRITTEN ON: 'b.WriteString(b.String()[:k])'. (LAID: no walk: one application.) -/
theorem Try.Builder_String_f (B b : Nat) (l : List UInt8) (w : World) (h : Lib.IsBuilderF 95 5 B b (Lib.byteCells l) w) (h0 : l ≠ []) :
    Calls Try.prog 68 #[.pointer (some ⟨b, 0, none⟩)] w fun e w' => e = .returned (.string ⟨l.toArray⟩) ∧ (Lib.IsBuilderF 95 5 B b (Lib.byteCells l) w' ∧ Below B w w') := Any.Builder_String_f Try.lays169 Try.Builder_Extra_169 B b l w h h0
open Go.RowKit in
/-- (*strings.Builder).String OF A BUILDER THAT HOLDS NO BYTE: the empty string; THE FORM '_f': a builder still. (LAID: no walk: one application.) -/
theorem Try.Builder_String_empty_f (B b : Nat) (w : World) (h : Lib.IsBuilderF 95 5 B b [] w) (hBw : B ≤ w.heap.size) :
    Calls Try.prog 68 #[.pointer (some ⟨b, 0, none⟩)] w fun e w' => e = .returned (.string ⟨#[]⟩) ∧ (Lib.IsBuilderF 95 5 B b [] w' ∧ Below B w w') := Any.Builder_String_empty_f Try.lays169 Try.Builder_Extra_169 B b w h hBw
open Go.RowKit in
/-- (*strings.Builder).String: "String returns the accumulated string.": WHATEVER THE BUILDER HOLDS; THE FORM '_f': OF A BUILDER THAT MAY HAVE BEEN READ BEFORE; AND IT IS A BUILDER STILL, holding the same bytes: it can be written on. (LAID: no walk: one application.) -/
theorem Try.Builder_String_any_f (B b : Nat) (l : List UInt8) (w : World) (h : Lib.IsBuilderF 95 5 B b (Lib.byteCells l) w) (hBw : B ≤ w.heap.size) :
    Calls Try.prog 68 #[.pointer (some ⟨b, 0, none⟩)] w fun e w' => e = .returned (.string ⟨l.toArray⟩) ∧ (Lib.IsBuilderF 95 5 B b (Lib.byteCells l) w' ∧ Below B w w') := Any.Builder_String_any_f Try.lays169 Try.Builder_Extra_169 B b l w h hBw
def Try.lays206_ren : Go.Shelf.Ren := ⟨fun | 206 => 80 | n => n, fun | 9 => 9 | 4 => 4 | 3 => 3 | n => n, fun | n => n⟩
theorem Try.lays206 : Go.Proofs.Lays.n206 Try.prog Try.lays206_ren := {
  mixed := by kernel_rfl
  f206 := Try.func80.trans (congrArg some (by kernel_rfl))
  t3 := Try.underlying3
  a3 := Try.isAgg3
  z3 := Try.sizeOf3
  v3 := Try.zeroValue3
  t4 := Try.underlying4
  a4 := Try.isAgg4
  z4 := Try.sizeOf4
  v4 := Try.zeroValue4
  t9 := Try.underlying9
  a9 := Try.isAgg9
  z9 := Try.sizeOf9
  v9 := Try.zeroValue9 }
open Go.RowKit Go.Lib in
/-- internal/stringslite.HasPrefix (what strings.HasPrefix calls). (LAID: no walk: one application.) -/
theorem Try.stringslite_HasPrefix (s p : ByteArray) (w : World) :
    Calls Try.prog 80 #[.string s, .string p] w fun e w' => e = .returned (.bool (Lib.hasPrefix s.data.toList p.data.toList)) ∧ w' = w := Any.stringslite_HasPrefix Try.lays206 s p w
def Try.lays99_ren : Go.Shelf.Ren := ⟨fun | 99 => 64 | 206 => 80 | n => n, fun | 9 => 9 | 4 => 4 | 3 => 3 | n => n, fun | n => n⟩
theorem Try.lays99 : Go.Proofs.Lays.n99 Try.prog Try.lays99_ren := {
  mixed := by kernel_rfl
  f99 := Try.func64.trans (congrArg some (by kernel_rfl))
  f206 := Try.func80.trans (congrArg some (by kernel_rfl))
  t3 := Try.underlying3
  a3 := Try.isAgg3
  z3 := Try.sizeOf3
  v3 := Try.zeroValue3
  t4 := Try.underlying4
  a4 := Try.isAgg4
  z4 := Try.sizeOf4
  v4 := Try.zeroValue4
  t9 := Try.underlying9
  a9 := Try.isAgg9
  z9 := Try.sizeOf9
  v9 := Try.zeroValue9 }
open Go.RowKit Go.Lib in
/-- strings.HasPrefix: "HasPrefix reports whether the string s begins with prefix.": IT RETURNS 'Lib.hasPrefix s prefix'; the world is as it was. (LAID: no walk: one application.) -/
theorem Try.strings_HasPrefix (s p : ByteArray) (w : World) :
    Calls Try.prog 64 #[.string s, .string p] w fun e w' => e = .returned (.bool (Lib.hasPrefix s.data.toList p.data.toList)) ∧ w' = w := Any.strings_HasPrefix Try.lays99 s p w
def Try.lays264_ren : Go.Shelf.Ren := ⟨fun | 264 => 79 | n => n, fun | 53 => 111 | 46 => 82 | n => n, fun | n => n⟩
theorem Try.lays264 : Go.Proofs.Lays.n264 Try.prog Try.lays264_ren := {
  mixed := by kernel_rfl
  f264 := Try.func79.trans (congrArg some (by kernel_rfl))
  t46 := Try.underlying82
  a46 := Try.isAgg82
  z46 := Try.sizeOf82
  v46 := Try.zeroValue82
  t53 := Try.underlying111
  a53 := Try.isAgg111
  z53 := Try.sizeOf111
  v53 := Try.zeroValue111 }
open Go.RowKit Go.Lib in
theorem Try.bits_Mul64 (x y : Nat) (hx : x < 18446744073709551616) (hy : y < 18446744073709551616) (w : World) :
    Calls Try.prog 79 #[.int .u64 x, .int .u64 y] w fun e w' => e = .returned (.tuple #[.int .u64 ((x * y / 18446744073709551616 : Nat) : Int), .int .u64 ((x * y % 18446744073709551616 : Nat) : Int)]) ∧ w' = w := Any.bits_Mul64 Try.lays264 x y hx hy w
def Try.lays212_ren : Go.Shelf.Ren := ⟨fun | 212 => 63 | 263 => 78 | 264 => 79 | n => n, fun | 46 => 82 | 51 => 108 | 146 => 109 | 53 => 111 | 148 => 112 | n => n, fun | n => n⟩
theorem Try.lays212 : Go.Proofs.Lays.n212 Try.prog Try.lays212_ren := {
  mixed := by kernel_rfl
  f212 := Try.func63.trans (congrArg some (by kernel_rfl))
  f263 := Try.func78.trans (congrArg some (by kernel_rfl))
  f264 := Try.func79.trans (congrArg some (by kernel_rfl))
  t46 := Try.underlying82
  a46 := Try.isAgg82
  z46 := Try.sizeOf82
  v46 := Try.zeroValue82
  t51 := Try.underlying108
  a51 := Try.isAgg108
  z51 := Try.sizeOf108
  v51 := Try.zeroValue108
  t53 := Try.underlying111
  a53 := Try.isAgg111
  z53 := Try.sizeOf111
  v53 := Try.zeroValue111
  t146 := Try.underlying109
  a146 := Try.isAgg109
  z146 := Try.sizeOf109
  v146 := Try.zeroValue109
  t148 := Try.underlying112
  a148 := Try.isAgg112
  z148 := Try.sizeOf112
  v148 := Try.zeroValue112 }
open Go.RowKit Go.Lib in
/-- math/bits.Mul: "Mul returns the full-width product of x and y": on a machine of 64 bits: Mul64's. (LAID: no walk: one application.) -/
theorem Try.bits_Mul (x y : Nat) (hx : x < 18446744073709551616) (hy : y < 18446744073709551616) (w : World) :
    Calls Try.prog 63 #[.int .u64 x, .int .u64 y] w fun e w' => e = .returned (.tuple #[.int .u64 ((x * y / 18446744073709551616 : Nat) : Int), .int .u64 ((x * y % 18446744073709551616 : Nat) : Int)]) ∧ w' = w := Any.bits_Mul Try.lays212 x y hx hy w
def Try.lays105_ren : Go.Shelf.Ren := ⟨fun | 105 => 43 | 212 => 63 | 99 => 64 | 165 => 65 | 166 => 66 | 170 => 67 | 169 => 68 | 263 => 78 | 264 => 79 | 206 => 80 | 240 => 81 | 241 => 82 | 276 => 85 | 277 => 86 | n => n, fun | 9 => 9 | 3 => 3 | 4 => 4 | 20 => 20 | 0 => 0 | 46 => 82 | 109 => 89 | 5 => 5 | 72 => 95 | 76 => 99 | 51 => 108 | 146 => 109 | 53 => 111 | 148 => 112 | 70 => 92 | 37 => 93 | 75 => 98 | 127 => 114 | 164 => 116 | 80 => 102 | n => n, fun | n => n⟩
theorem Try.lays105 : Go.Proofs.Lays.n105 Try.prog Try.lays105_ren := {
  mixed := by kernel_rfl
  f99 := Try.func64.trans (congrArg some (by kernel_rfl))
  f105 := Try.func43.trans (congrArg some (by kernel_rfl))
  f165 := Try.func65.trans (congrArg some (by kernel_rfl))
  f166 := Try.func66.trans (congrArg some (by kernel_rfl))
  f169 := Try.func68.trans (congrArg some (by kernel_rfl))
  f170 := Try.func67.trans (congrArg some (by kernel_rfl))
  f206 := Try.func80.trans (congrArg some (by kernel_rfl))
  f212 := Try.func63.trans (congrArg some (by kernel_rfl))
  f240 := Try.func81.trans (congrArg some (by kernel_rfl))
  f241 := Try.func82.trans (congrArg some (by kernel_rfl))
  f263 := Try.func78.trans (congrArg some (by kernel_rfl))
  f264 := Try.func79.trans (congrArg some (by kernel_rfl))
  f276 := Try.func85.trans (congrArg some (by kernel_rfl))
  f277 := Try.func86.trans (congrArg some (by kernel_rfl))
  t0 := Try.underlying0
  a0 := Try.isAgg0
  z0 := Try.sizeOf0
  v0 := Try.zeroValue0
  t3 := Try.underlying3
  a3 := Try.isAgg3
  z3 := Try.sizeOf3
  v3 := Try.zeroValue3
  t4 := Try.underlying4
  a4 := Try.isAgg4
  z4 := Try.sizeOf4
  v4 := Try.zeroValue4
  t5 := Try.underlying5
  a5 := Try.isAgg5
  z5 := Try.sizeOf5
  v5 := Try.zeroValue5
  t9 := Try.underlying9
  a9 := Try.isAgg9
  z9 := Try.sizeOf9
  v9 := Try.zeroValue9
  t20 := Try.underlying20
  a20 := Try.isAgg20
  z20 := Try.sizeOf20
  v20 := Try.zeroValue20
  t37 := Try.underlying93
  a37 := Try.isAgg93
  z37 := Try.sizeOf93
  v37 := Try.zeroValue93
  t46 := Try.underlying82
  a46 := Try.isAgg82
  z46 := Try.sizeOf82
  v46 := Try.zeroValue82
  t51 := Try.underlying108
  a51 := Try.isAgg108
  z51 := Try.sizeOf108
  v51 := Try.zeroValue108
  t53 := Try.underlying111
  a53 := Try.isAgg111
  z53 := Try.sizeOf111
  v53 := Try.zeroValue111
  t70 := Try.underlying92
  a70 := Try.isAgg92
  z70 := Try.sizeOf92
  v70 := Try.zeroValue92
  t72 := Try.underlying95
  a72 := Try.isAgg95
  z72 := Try.sizeOf95
  v72 := Try.zeroValue95
  t75 := Try.underlying98
  a75 := Try.isAgg98
  z75 := Try.sizeOf98
  v75 := Try.zeroValue98
  t76 := Try.underlying99
  a76 := Try.isAgg99
  z76 := Try.sizeOf99
  v76 := Try.zeroValue99
  t109 := Try.underlying89
  a109 := Try.isAgg89
  z109 := Try.sizeOf89
  v109 := Try.zeroValue89
  t127 := Try.underlying114
  a127 := Try.isAgg114
  z127 := Try.sizeOf114
  v127 := Try.zeroValue114
  t146 := Try.underlying109
  a146 := Try.isAgg109
  z146 := Try.sizeOf109
  v146 := Try.zeroValue109
  t148 := Try.underlying112
  a148 := Try.isAgg112
  z148 := Try.sizeOf112
  v148 := Try.zeroValue112
  t164 := Try.underlying116
  a164 := Try.isAgg116
  z164 := Try.sizeOf116
  v164 := Try.zeroValue116 }
theorem Try.Builder_Extra_105 : Builder.Extra Try.prog Try.lays105_ren := {
  sizeBuilder := by kernel_rfl
  liesBuilder := by kernel_rfl
  t5 := Try.underlying5
  a5 := Try.isAgg5
  z5 := Try.sizeOf5
  v5 := Try.zeroValue5
  infoByte := by kernel_rfl
  cellsByte := by kernel_rfl
  sizeByte := by kernel_rfl
  neB5 := by decide }
open Go.RowKit Go.Lib in
/-- THE MAIN CASE: at least two copies of a string that is not empty. (LAID: no walk: one application.) -/
theorem Try.strings_Repeat_main (s : ByteArray) (c : Nat) (w : World) (hc2 : 2 ≤ c) (hc : c ≤ 9223372036854775807) (hlen : s.size * c ≤ 140737488355328) (h0 : 0 < s.size) :
    Calls Try.prog 43 #[.string s, .int .i64 c] w fun e w' => e = .returned (.string ⟨(Lib.repeatL s.data.toList c).toArray⟩) ∧ Below w.heap.size w w' := Any.strings_Repeat_main Try.lays105 Try.Builder_Extra_105 s c w hc2 hc hlen h0
open Go.RowKit Go.Lib in
theorem Try.strings_Repeat_zero (s : ByteArray) (w : World) :
    Calls Try.prog 43 #[.string s, .int .i64 0] w fun e w' => e = .returned (.string ⟨#[]⟩) ∧ w' = w := Any.strings_Repeat_zero Try.lays105 s w
open Go.RowKit Go.Lib in
theorem Try.strings_Repeat_one (s : ByteArray) (w : World) :
    Calls Try.prog 43 #[.string s, .int .i64 1] w fun e w' => e = .returned (.string s) ∧ w' = w := Any.strings_Repeat_one Try.lays105 s w
open Go.RowKit Go.Lib in
/-- Copies of the empty string. (LAID: no walk: one application.) -/
theorem Try.strings_Repeat_empty (s : ByteArray) (c : Nat) (w : World) (hc2 : 2 ≤ c) (hc : c ≤ 9223372036854775807) (h0 : s.size = 0) :
    Calls Try.prog 43 #[.string s, .int .i64 c] w fun e w' => e = .returned (.string ⟨#[]⟩) ∧ w' = w := Any.strings_Repeat_empty Try.lays105 s c w hc2 hc h0
open Go.RowKit Go.Lib in
/-- count < 0: "It panics if count is negative". (LAID: no walk: one application.) -/
theorem Try.strings_Repeat_negative (s : ByteArray) (c : Int) (w : World) (hc : c < 0) :
    Calls Try.prog 43 #[.string s, .int .i64 c] w fun e w' => e = .panicked [{ v := repeatPanic Try.lays105_ren "strings: negative Repeat count", recovered := false }] ∧ w' = w := Any.strings_Repeat_negative Try.lays105 s c w hc
open Go.RowKit Go.Lib in
/-- len(s) * count is no int: ".. or if the result of (len(s) * count) overflows". (LAID: no walk: one application.) -/
theorem Try.strings_Repeat_overflow (s : ByteArray) (c : Nat) (w : World) (hc : c ≤ 9223372036854775807) (hs : s.size ≤ 9223372036854775807) (hbig : 9223372036854775807 < s.size * c) :
    Calls Try.prog 43 #[.string s, .int .i64 c] w fun e w' => e = .panicked [{ v := repeatPanic Try.lays105_ren "strings: Repeat output length overflow", recovered := false }] ∧ w' = w := Any.strings_Repeat_overflow Try.lays105 s c w hc hs hbig
open Go.RowKit Go.Lib in
/-- **strings.Repeat: count ≥ 0, the result within one allocation: count copies of s.** (LAID: no walk: one application.) -/
theorem Try.strings_Repeat (s : ByteArray) (c : Nat) (w : World) (hc : c ≤ 9223372036854775807) (hlen : s.size * c ≤ 140737488355328) :
    Calls Try.prog 43 #[.string s, .int .i64 c] w fun e w' => e = .returned (.string ⟨(Lib.repeatL s.data.toList c).toArray⟩) ∧ Below w.heap.size w w' := Any.strings_Repeat Try.lays105 Try.Builder_Extra_105 s c w hc hlen
def Try.laysNm215_ren : Go.Shelf.Ren := ⟨fun | 15 => 27 | n => n, fun | 22 => 23 | 3 => 3 | 4 => 4 | n => n, fun | n => n⟩
theorem Try.laysNm215 : Go.Proofs.Lays2.n15 Try.prog Try.laysNm215_ren := {
  mixed := by kernel_rfl
  f15 := Try.func27.trans (congrArg some (by kernel_rfl))
  t3 := Try.underlying3
  a3 := Try.isAgg3
  z3 := Try.sizeOf3
  v3 := Try.zeroValue3
  t4 := Try.underlying4
  a4 := Try.isAgg4
  z4 := Try.sizeOf4
  v4 := Try.zeroValue4
  t22 := Try.underlying23
  a22 := Try.isAgg23
  z22 := Try.sizeOf23
  v22 := Try.zeroValue23
  i3 := by kernel_rfl }
open Go.RowKit Go.Lib in
/-- slices.Clone at []int: "Clone returns a copy of the slice. The elements are copied using assignment, so this is a shallow clone. The result may have additional unused capacity. The result preserves the nilness of s.": OF A SLICE THAT IS NOT nil IT RETURNS A SLICE THAT IS NOT nil, OF THE SAME ELEMENTS, IN MEMORY OF THE CALL's OWN: in the how-to's words (6f): 'w'.ownsRow B e 1 v' n cells': v' begins at the head of a row among the blocks from B on (B: the heap's size at the call), not frozen, whose first cells are the elements · 'Below B w w'': below B all is as it was. The capacity is whatever the run-time gives. 'zs': what the cells behind the slice's address hold; 'zs.take n': its elements. (LAID: no walk: one application.) -/
theorem Try.slices_Clone_int (b off n c : Nat) (zs : List Int) (w : World) (hz : n ≤ zs.length) (hbig : n * 8 ≤ 140737488355328) (hc : ∀ j, j < zs.length → w.cell? ⟨b, off + j, none⟩ = some (.int .i64 (zs.getD j 0))) :
    Calls Try.prog 27 #[.slice (some ⟨b, off, none⟩) n c] w fun e w' => ∃ v', e = .returned v' ∧ w'.ownsRow w.heap.size 3 1 v' n ((zs.take n).map (Value.int .i64)) ∧ v' ≠ .slice none 0 0 ∧ Below w.heap.size w w' := Any.slices_Clone_int Try.laysNm215 b off n c zs w hz hbig hc
open Go.RowKit Go.Lib in
/-- The same at nil: nil comes back; the world is as it was. (LAID: no walk: one application.) -/
theorem Try.slices_Clone_int_nil (n c : Nat) (w : World) :
    Calls Try.prog 27 #[.slice none n c] w fun e w' => e = .returned (.slice none 0 0) ∧ w' = w := Any.slices_Clone_int_nil Try.laysNm215 n c w
open Go.RowKit Go.Lib in
/-- The same at a slice of length 0 that is not nil, WHATEVER ITS ADDRESS (no cell is asked for): a slice that is not nil and owns nothing comes back. (LAID: no walk: one application.) -/
theorem Try.slices_Clone_int_zero (a : Addr) (c : Nat) (w : World) :
    Calls Try.prog 27 #[.slice (some a) 0 c] w fun e w' => ∃ v', e = .returned v' ∧ w'.ownsRow w.heap.size 3 1 v' 0 [] ∧ v' ≠ .slice none 0 0 ∧ Below w.heap.size w w' := Any.slices_Clone_int_zero Try.laysNm215 a c w
end Go.Proofs

namespace Go.Proofs.Ytjhmfljlclajnac
open Go.RowKit Wb
set_option linter.unusedVariables false
set_option linter.unusedSimpArgs false
set_option maxRecDepth 100000
set_option maxHeartbeats 1000000

theorem rep_zero (c : Nat) : Lib.repeatL [0] c = List.replicate c (0 : UInt8) := by
  induction c with
  | zero => rfl
  | succ c ih => rw [Lib.repeatL, ih, List.replicate_succ]; rfl
theorem ba_ext {x y : ByteArray} (h : x.data.toList = y.data.toList) : x = y := by
  rw [← str_toList x, h, str_toList y]

theorem disk_Fit (s : ByteArray) (w : World) (hs : s.size ≤ 9223372036854775807) :
    Calls Try.prog 15 #[.string s] w fun e w' => e = .returned (.string (fit s)) ∧ Below w.heap.size w w' := by
  by_cases hlt : s.size < 32
  · obtain ⟨c, hc⟩ : ∃ c : Nat, c + s.size = 32 := ⟨32 - s.size, by omega⟩
    have hR := fun w => Try.strings_Repeat ⟨#[0]⟩ c w (by omega) (by show 1 * c ≤ _; omega)
    have hfit : fit s = s ++ ⟨(Lib.repeatL [0] c).toArray⟩ := by
      apply ba_ext
      have hl : s.data.toList.length = s.size := by rw [Array.length_toList]; rfl
      have e : 32 - s.data.toList.length = c := by omega
      rw [rep_zero]
      simp only [fit, str, fitL, e, ByteArray.data_append, Array.toList_append]
      rw [List.take_of_length_le (by omega)]
    have hrl : (Lib.repeatL [0] c).length ≤ 32 := by rw [rep_zero, List.length_replicate]; omega
    have e1 : (32 - (s.size : Int)) = (c : Int) := by omega
    replace hfit := hid hfit
    replace hR := hid hR
    generalize fit s = ft at *
    go_enter Try.func15, Try.ntmps15
    go_wp2_with (go_at_call 43; refine (hR.out _).mono ?_; rintro e w1 ⟨rfl, hb1⟩)
    go_ret
    exact ⟨ret_s hfit.out.symm, hb1⟩
  · have hfit : fit s = s.extract 0 32 := by
      apply ba_ext
      have hl : s.data.toList.length = s.size := by rw [Array.length_toList]; rfl
      have e : 32 - s.data.toList.length = 0 := by omega
      simp only [fit, str, fitL, e, List.replicate_zero, List.append_nil]
      rw [Lib.extract_data]
      simp
    rw [hfit]
    go_enter Try.func15, Try.ntmps15
    go_wp2
    go_ret
    exact ⟨rfl, by repeat (first | exact Below.refl _ _ | with_reducible assumption | (refine allocB ?_ (by first | omega | (simp; done) | (simp; omega)) _) | (refine Below.setCell ?_ (by first | omega | (simp; done) | (simp; omega)) _) | refine Below.drew ?_ | (refine Below.trans ?_ (Below.mono (by with_reducible assumption) (by first | omega | (simp; done) | (simp; omega)))))⟩
end Go.Proofs.Ytjhmfljlclajnac

namespace Wb
open Go Go.RowKit
def tA : Txn := ⟨1, [], [], [], hnd0, hnd0, ⟨true, 3⟩⟩
def tB (s : ByteArray) : Txn := ⟨1, [⟨5, s⟩], [], [], hnd0, hnd0, ⟨true, 2⟩⟩
theorem tA_beg : begE (txn0 1) 2 3 24 = 0 ∧ begT (txn0 1) 2 3 24 = tA := ⟨by decide, rfl⟩
theorem tA_may : mayE tA 2 5 = 0 := by decide
theorem tA_pay : payE tA 2 5 = 0 := by decide
theorem tB_chg {s : ByteArray} (hs : s.size = 32) : chgE tA 2 5 s = 0 ∧ chgT tA 2 5 s = tB s := by
  obtain ⟨e1, e2⟩ := chg_ok tA_may hs (by decide) tA_pay
  exact ⟨e1, e2.trans rfl⟩
theorem RTxn.start (w : World) (seq : Int) : RTxn w (txnV (txn0 seq) (.slice none 0 0) (.slice none 0 0) (.slice none 0 0)) (txn0 seq) :=
  ⟨_, _, _, rfl, RL.nil _ _, RL.nil _ _, RL.nil _ _, by simp [txn0], by simp [txn0], by simp [txn0]⟩
end Wb
namespace Go.Proofs.Ytjhmfljlclajnac
open Go.RowKit Wb
set_option linter.unusedVariables false
set_option linter.unusedSimpArgs false
set_option maxRecDepth 100000
set_option maxHeartbeats 8000000
def strX : ByteArray := ⟨#[120]⟩
theorem law_names (w : World) : Calls Try.prog 14 #[] w fun e w' => e = .returned (.bool true) ∧ Below w.heap.size w w' := by
  have hBeg := fun w' => txn_Begin (txn0 1) 2 3 24 (.slice none 0 0) (.slice none 0 0) (.slice none 0 0) w' (RTxn.start w' 1)
  rw [tA_beg.1, tA_beg.2] at hBeg
  simp only [txnV, txn0, tA, hnd0, List.length_nil] at hBeg
  have hFit := fun w' => disk_Fit ⟨#[120]⟩ w' (by decide)
  have hChg := fun w' vm vd vr (hr : RTxn w' (txnV tA vm vd vr) tA) => txn_Change tA 2 5 (fit ⟨#[120]⟩) vm vd vr w' hr
  obtain ⟨e1, e2⟩ := tB_chg (fit_size ⟨#[120]⟩)
  rw [e1, e2] at hChg
  have hRA : ∀ w', RTxn w' (txnV tA (.slice none 0 0) (.slice none 0 0) (.slice none 0 0)) tA := fun w' => ⟨_, _, _, rfl, RL.nil _ _, RL.nil _ _, RL.nil _ _, by simp [tA], by simp [tA], by simp [tA]⟩
  have hChg := fun w' => hChg w' _ _ _ (hRA w')
  have hOp := fun w' v (hr : RTxn w' v (tB (fit ⟨#[120]⟩))) => txn_Open _ v w' hr
  have hop : openB (tB (fit ⟨#[120]⟩)) = true := rfl
  rw [hop] at hOp
  generalize fit ⟨#[120]⟩ = F at *
  replace hBeg := hid hBeg; replace hFit := hid hFit; replace hChg := hid hChg; replace hRA := hid hRA; replace hOp := hid hOp
  clear e1 e2 hop
  have X := ((((St.start [] w).addR (RL.nil intC w) (.inl rfl)).addR (RL.nil cpyC w) (.inl rfl)).addR (RL.nil cpyC w) (.inl rfl))
  have X : St [] w w [] [Rd.of cpyC (.slice none 0 0) tA.mt, Rd.of cpyC (.slice none 0 0) tA.dt, Rd.of intC (.slice none 0 0) tA.rev] := X
  go_enter Try.func14, Try.ntmps14
  go_wp2_with (first
    | (refine at_mem rfl ?_; (first | (refine at_load rfl ?_; (first | (refine c_load1 rfl _ _ rfl rfl X (by repeat (first | exact ReadA.here rfl | apply ReadA.there)) ?_) | (refine c_loadN rfl _ _ rfl rfl X (by repeat (first | exact ReadB.here (Nat.le_of_ble_eq_true rfl) | apply ReadB.there)) ?_))) | (refine at_store rfl ?_; (first | (refine c_store1 rfl _ _ _ rfl rfl (by first | exact EvR.const _ | exact EvR.tmp rfl rfl) X rfl rfl (by repeat (first | exact PutA.here (Nat.le_of_ble_eq_true rfl) | apply PutA.there)) ?_; intro w X2; (try simp only [upd] at X2); replace X := X2; clear X2) | (refine c_storeN rfl _ _ _ rfl rfl rfl X rfl rfl (by repeat (first | exact PutA.here (Nat.le_of_ble_eq_true rfl) | apply PutA.there)) ?_; intro w X2; (try simp only [upd] at X2); replace X := X2; clear X2))) | (refine m_alloc rfl _ rfl X ?_; intro g w X2; (replace X := X2; clear X2)) | (refine m_box rfl _ _ rfl (by first | exact EvR.const _ | exact EvR.tmp rfl rfl) rfl X ?_; intro g w X2; (replace X := X2; clear X2))); (simp only [Act.put, List.setIfInBounds_toArray, List.set_cons_succ, List.set_cons_zero, List.drop_succ_cons, List.drop_zero, List.take_succ_cons, List.take_zero, Nat.reduceAdd]))
    | (go_at_call 41; go_loud ((with_reducible refine (hBeg.out _).mono ?_); rintro e w1 ⟨rfl, hb1⟩; replace X := X.call hb1; clear hb1)))
  (refine q_start 1 [6] [1, 2, 6] [0] [0, 1, 2, 3, 4, 5, 6, 7] X (by kernel_rfl) (by kernel_rfl) (fun _ _ _ _ _ h => h) ?_; intro hQ X2 hL; replace X := X2; clear X2; simp only [List.take_succ_cons, List.take_zero] at hL; simp only [List.take_succ_cons, List.take_zero])
  ((first | (refine d_load1 rfl rfl (by first | exact EvR.const _ | exact EvR.tmp rfl rfl) (by repeat (first | exact ReadA.here rfl | apply ReadA.there)) rfl rfl X hL hQ ?_) | (refine d_loadN rfl rfl (by first | exact EvR.const _ | exact EvR.tmp rfl rfl) (by repeat (first | exact ReadB.here (Nat.le_of_ble_eq_true rfl) | apply ReadB.there)) rfl rfl X hL hQ ?_)); (simp only [Act.put, List.setIfInBounds_toArray, List.set_cons_succ, List.set_cons_zero, List.drop_succ_cons, List.drop_zero, List.take_succ_cons, List.take_zero, Nat.reduceAdd]))
  (refine q_call 15 _ _ rfl rfl _ rfl ⟨_, _, Try.func15, by kernel_rfl, rfl⟩ rfl rfl (hFit.out _) ?_; rintro e w1 ⟨rfl, hb1⟩; replace X := X.call hb1; clear hb1; (have hL2 := X.und (by first | exact hL | exact hL.up | exact hL.up3 | exact hL.up.up); replace hL := hL2; clear hL2); refine ⟨_, rfl, fun _ _ => X.keeps hL, ?_⟩; (simp only [Act.put, List.setIfInBounds_toArray, List.set_cons_succ, List.set_cons_zero, List.drop_succ_cons, List.drop_zero, List.take_succ_cons, List.take_zero, Nat.reduceAdd]))
  (refine q_call 7 _ _ rfl rfl _ rfl ⟨_, _, Try.func7, by kernel_rfl, rfl⟩ rfl rfl (hChg.out _) ?_; rintro e w1 ⟨vm, vd, vr, rfl, hN, hb1⟩; replace X := X.addT hb1 hN (by simp) (by simp) (by simp); clear hb1 hN; (have hL2 := X.und (by first | exact hL | exact hL.up | exact hL.up3 | exact hL.up.up); replace hL := hL2; clear hL2); refine ⟨_, rfl, fun _ _ => X.keeps hL, ?_⟩; (simp only [Act.put, List.setIfInBounds_toArray, List.set_cons_succ, List.set_cons_zero, List.drop_succ_cons, List.drop_zero, List.take_succ_cons, List.take_zero, Nat.reduceAdd]))
  obtain ⟨am, cm, hvm, _⟩ := (X.r0).form
  obtain ⟨ad, cd, hvd, _⟩ := (X.r1).form
  obtain ⟨ar, cr, hvr, _⟩ := (X.r2).form
  obtain rfl : vm = .slice am 1 cm := hvm
  obtain rfl : vd = .slice ad 0 cd := hvd
  obtain rfl : vr = .slice ar 0 cr := hvr
  simp only [txnV, tB, hnd0]
  (refine q_move rfl rfl (by first | exact EvR.const _ | exact EvR.tmp rfl rfl) rfl rfl hQ ?_; (simp only [Act.put, List.setIfInBounds_toArray, List.set_cons_succ, List.set_cons_zero, List.drop_succ_cons, List.drop_zero, List.take_succ_cons, List.take_zero, Nat.reduceAdd]))
  (refine q_extract rfl rfl (by first | exact EvR.const _ | exact EvR.tmp rfl rfl) rfl rfl rfl hQ ?_; (simp only [Act.put, List.setIfInBounds_toArray, List.set_cons_succ, List.set_cons_zero, List.drop_succ_cons, List.drop_zero, List.take_succ_cons, List.take_zero, Nat.reduceAdd]))
  (refine q_extract rfl rfl (by first | exact EvR.const _ | exact EvR.tmp rfl rfl) rfl rfl rfl hQ ?_; (simp only [Act.put, List.setIfInBounds_toArray, List.set_cons_succ, List.set_cons_zero, List.drop_succ_cons, List.drop_zero, List.take_succ_cons, List.take_zero, Nat.reduceAdd]))
  ((first | (refine d_brk1 rfl rfl (by first | exact EvR.const _ | exact EvR.tmp rfl rfl) (by first | exact EvR.const _ | exact EvR.tmp rfl rfl) X rfl rfl rfl rfl rfl (by repeat (first | exact PutA.here (Nat.le_of_ble_eq_true rfl) | apply PutA.there)) ?_) | (refine d_brkN rfl rfl (by first | exact EvR.const _ | exact EvR.tmp rfl rfl) rfl X rfl rfl rfl rfl rfl (by repeat (first | exact PutA.here (Nat.le_of_ble_eq_true rfl) | apply PutA.there)) ?_)); intro w X2; (try simp only [upd] at X2); replace X := X2; clear X2; (simp only [Act.put, List.setIfInBounds_toArray, List.set_cons_succ, List.set_cons_zero, List.drop_succ_cons, List.drop_zero, List.take_succ_cons, List.take_zero, Nat.reduceAdd]))
  (refine q_assign rfl rfl (by first | exact EvR.const _ | exact EvR.tmp rfl rfl) rfl rfl hQ ?_; (simp only [Act.put, List.setIfInBounds_toArray, List.set_cons_succ, List.set_cons_zero, List.drop_succ_cons, List.drop_zero, List.take_succ_cons, List.take_zero, Nat.reduceAdd]))
  refine q_nil ?_
  have hR := hid (X.rtxn (t := tB F) (vm := .slice am 1 cm) (vd := .slice ad 0 cd) (vr := .slice ar 0 cr) (by simp [tB]) (by simp [tB]) (by simp [tB]) (by simp [tB]) (by simp [tB]) (by simp [tB]))
  replace hOp := hid (hOp.out _ _ hR.out)
  simp only [txnV, tB, hnd0] at hOp
  clear hR
  go_wp2_with (first
    | (refine at_mem rfl ?_; (first | (refine at_load rfl ?_; (first | (refine c_load1 rfl _ _ rfl rfl X (by repeat (first | exact ReadA.here rfl | apply ReadA.there)) ?_) | (refine c_loadN rfl _ _ rfl rfl X (by repeat (first | exact ReadB.here (Nat.le_of_ble_eq_true rfl) | apply ReadB.there)) ?_))) | (refine at_store rfl ?_; (first | (refine c_store1 rfl _ _ _ rfl rfl (by first | exact EvR.const _ | exact EvR.tmp rfl rfl) X rfl rfl (by repeat (first | exact PutA.here (Nat.le_of_ble_eq_true rfl) | apply PutA.there)) ?_; intro w X2; (try simp only [upd] at X2); replace X := X2; clear X2) | (refine c_storeN rfl _ _ _ rfl rfl rfl X rfl rfl (by repeat (first | exact PutA.here (Nat.le_of_ble_eq_true rfl) | apply PutA.there)) ?_; intro w X2; (try simp only [upd] at X2); replace X := X2; clear X2))) | (refine m_alloc rfl _ rfl X ?_; intro g w X2; (replace X := X2; clear X2)) | (refine m_box rfl _ _ rfl (by first | exact EvR.const _ | exact EvR.tmp rfl rfl) rfl X ?_; intro g w X2; (replace X := X2; clear X2))); (simp only [Act.put, List.setIfInBounds_toArray, List.set_cons_succ, List.set_cons_zero, List.drop_succ_cons, List.drop_zero, List.take_succ_cons, List.take_zero, Nat.reduceAdd]))
    | (go_at_call 42; go_loud ((with_reducible refine (hOp.out).mono ?_); rintro e w1 ⟨rfl, hb1⟩; replace X := X.call hb1; clear hb1)))
  go_ret
  exact ⟨rfl, X.below⟩
end Go.Proofs.Ytjhmfljlclajnac

namespace Go.Proofs.Ytjhmfljlclajnac
open Go.RowKit Wb
set_option linter.unusedVariables false
set_option linter.unusedSimpArgs false
set_option maxRecDepth 100000
set_option maxHeartbeats 8000000
theorem keep_names (w : World) : Calls Try.prog 16 #[] w fun e w' => e = .returned (.bool true) ∧ Below w.heap.size w w' := by
  have hBeg := fun w' => txn_Begin (txn0 1) 2 3 24 (.slice none 0 0) (.slice none 0 0) (.slice none 0 0) w' (RTxn.start w' 1)
  rw [tA_beg.1, tA_beg.2] at hBeg
  simp only [txnV, txn0, tA, hnd0, List.length_nil] at hBeg
  have hFit := fun w' => disk_Fit ⟨#[120]⟩ w' (by decide)
  have hChg := fun w' vm vd vr (hr : RTxn w' (txnV tA vm vd vr) tA) => txn_Change tA 2 5 (fit ⟨#[120]⟩) vm vd vr w' hr
  obtain ⟨e1, e2⟩ := tB_chg (fit_size ⟨#[120]⟩)
  rw [e1, e2] at hChg
  have hRA : ∀ w', RTxn w' (txnV tA (.slice none 0 0) (.slice none 0 0) (.slice none 0 0)) tA := fun w' => ⟨_, _, _, rfl, RL.nil _ _, RL.nil _ _, RL.nil _ _, by simp [tA], by simp [tA], by simp [tA]⟩
  have hChg := fun w' => hChg w' _ _ _ (hRA w')
  have hOp := fun w' v (hr : RTxn w' v (tB (fit ⟨#[120]⟩))) => txn_Open _ v w' hr
  have hop : openB (tB (fit ⟨#[120]⟩)) = true := rfl
  rw [hop] at hOp
  generalize fit ⟨#[120]⟩ = F at *
  replace hBeg := hid hBeg; replace hFit := hid hFit; replace hChg := hid hChg; replace hRA := hid hRA; replace hOp := hid hOp
  clear e1 e2 hop
  have X := ((((St.start [] w).addR (RL.nil intC w) (.inl rfl)).addR (RL.nil cpyC w) (.inl rfl)).addR (RL.nil cpyC w) (.inl rfl))
  have X : St [] w w [] [Rd.of cpyC (.slice none 0 0) tA.mt, Rd.of cpyC (.slice none 0 0) tA.dt, Rd.of intC (.slice none 0 0) tA.rev] := X
  go_enter Try.func16, Try.ntmps16
  go_wp2_with (first
    | (refine at_mem rfl ?_; (first | (refine at_load rfl ?_; (first | (refine c_load1 rfl _ _ rfl rfl X (by repeat (first | exact ReadA.here rfl | apply ReadA.there)) ?_) | (refine c_loadN rfl _ _ rfl rfl X (by repeat (first | exact ReadB.here (Nat.le_of_ble_eq_true rfl) | apply ReadB.there)) ?_))) | (refine at_store rfl ?_; (first | (refine c_store1 rfl _ _ _ rfl rfl (by first | exact EvR.const _ | exact EvR.tmp rfl rfl) X rfl rfl (by repeat (first | exact PutA.here (Nat.le_of_ble_eq_true rfl) | apply PutA.there)) ?_; intro w X2; (try simp only [upd] at X2); replace X := X2; clear X2) | (refine c_storeN rfl _ _ _ rfl rfl rfl X rfl rfl (by repeat (first | exact PutA.here (Nat.le_of_ble_eq_true rfl) | apply PutA.there)) ?_; intro w X2; (try simp only [upd] at X2); replace X := X2; clear X2))) | (refine m_alloc rfl _ rfl X ?_; intro g w X2; (replace X := X2; clear X2)) | (refine m_box rfl _ _ rfl (by first | exact EvR.const _ | exact EvR.tmp rfl rfl) rfl X ?_; intro g w X2; (replace X := X2; clear X2))); (simp only [Act.put, List.setIfInBounds_toArray, List.set_cons_succ, List.set_cons_zero, List.drop_succ_cons, List.drop_zero, List.take_succ_cons, List.take_zero, Nat.reduceAdd]))
    | (go_at_call 41; go_loud ((with_reducible refine (hBeg.out _).mono ?_); rintro e w1 ⟨rfl, hb1⟩; replace X := X.call hb1; clear hb1)))
  (refine q_start 1 [6] [1, 2, 6] [0] [0, 1, 2, 3, 4, 5, 6, 7] X (by kernel_rfl) (by kernel_rfl) (fun _ _ _ _ _ h => h) ?_; intro hQ X2 hL; replace X := X2; clear X2; simp only [List.take_succ_cons, List.take_zero] at hL; simp only [List.take_succ_cons, List.take_zero])
  ((first | (refine d_load1 rfl rfl (by first | exact EvR.const _ | exact EvR.tmp rfl rfl) (by repeat (first | exact ReadA.here rfl | apply ReadA.there)) rfl rfl X hL hQ ?_) | (refine d_loadN rfl rfl (by first | exact EvR.const _ | exact EvR.tmp rfl rfl) (by repeat (first | exact ReadB.here (Nat.le_of_ble_eq_true rfl) | apply ReadB.there)) rfl rfl X hL hQ ?_)); (simp only [Act.put, List.setIfInBounds_toArray, List.set_cons_succ, List.set_cons_zero, List.drop_succ_cons, List.drop_zero, List.take_succ_cons, List.take_zero, Nat.reduceAdd]))
  (refine q_call 15 _ _ rfl rfl _ rfl ⟨_, _, Try.func15, by kernel_rfl, rfl⟩ rfl rfl (hFit.out _) ?_; rintro e w1 ⟨rfl, hb1⟩; replace X := X.call hb1; clear hb1; (have hL2 := X.und (by first | exact hL | exact hL.up | exact hL.up3 | exact hL.up.up); replace hL := hL2; clear hL2); refine ⟨_, rfl, fun _ _ => X.keeps hL, ?_⟩; (simp only [Act.put, List.setIfInBounds_toArray, List.set_cons_succ, List.set_cons_zero, List.drop_succ_cons, List.drop_zero, List.take_succ_cons, List.take_zero, Nat.reduceAdd]))
  (refine q_call 7 _ _ rfl rfl _ rfl ⟨_, _, Try.func7, by kernel_rfl, rfl⟩ rfl rfl (hChg.out _) ?_; rintro e w1 ⟨vm, vd, vr, rfl, hN, hb1⟩; replace X := X.addT hb1 hN (by simp) (by simp) (by simp); clear hb1 hN; (have hL2 := X.und (by first | exact hL | exact hL.up | exact hL.up3 | exact hL.up.up); replace hL := hL2; clear hL2); refine ⟨_, rfl, fun _ _ => X.keeps hL, ?_⟩; (simp only [Act.put, List.setIfInBounds_toArray, List.set_cons_succ, List.set_cons_zero, List.drop_succ_cons, List.drop_zero, List.take_succ_cons, List.take_zero, Nat.reduceAdd]))
  obtain ⟨am, cm, hvm, _⟩ := (X.r0).form
  obtain ⟨ad, cd, hvd, _⟩ := (X.r1).form
  obtain ⟨ar, cr, hvr, _⟩ := (X.r2).form
  obtain rfl : vm = .slice am 1 cm := hvm
  obtain rfl : vd = .slice ad 0 cd := hvd
  obtain rfl : vr = .slice ar 0 cr := hvr
  simp only [txnV, tB, hnd0]
  (refine q_move rfl rfl (by first | exact EvR.const _ | exact EvR.tmp rfl rfl) rfl rfl hQ ?_; (simp only [Act.put, List.setIfInBounds_toArray, List.set_cons_succ, List.set_cons_zero, List.drop_succ_cons, List.drop_zero, List.take_succ_cons, List.take_zero, Nat.reduceAdd]))
  (refine q_extract rfl rfl (by first | exact EvR.const _ | exact EvR.tmp rfl rfl) rfl rfl rfl hQ ?_; (simp only [Act.put, List.setIfInBounds_toArray, List.set_cons_succ, List.set_cons_zero, List.drop_succ_cons, List.drop_zero, List.take_succ_cons, List.take_zero, Nat.reduceAdd]))
  (refine q_extract rfl rfl (by first | exact EvR.const _ | exact EvR.tmp rfl rfl) rfl rfl rfl hQ ?_; (simp only [Act.put, List.setIfInBounds_toArray, List.set_cons_succ, List.set_cons_zero, List.drop_succ_cons, List.drop_zero, List.take_succ_cons, List.take_zero, Nat.reduceAdd]))
  ((first | (refine d_brk1 rfl rfl (by first | exact EvR.const _ | exact EvR.tmp rfl rfl) (by first | exact EvR.const _ | exact EvR.tmp rfl rfl) X rfl rfl rfl rfl rfl (by repeat (first | exact PutA.here (Nat.le_of_ble_eq_true rfl) | apply PutA.there)) ?_) | (refine d_brkN rfl rfl (by first | exact EvR.const _ | exact EvR.tmp rfl rfl) rfl X rfl rfl rfl rfl rfl (by repeat (first | exact PutA.here (Nat.le_of_ble_eq_true rfl) | apply PutA.there)) ?_)); intro w X2; (try simp only [upd] at X2); replace X := X2; clear X2; (simp only [Act.put, List.setIfInBounds_toArray, List.set_cons_succ, List.set_cons_zero, List.drop_succ_cons, List.drop_zero, List.take_succ_cons, List.take_zero, Nat.reduceAdd]))
  (refine q_assign rfl rfl (by first | exact EvR.const _ | exact EvR.tmp rfl rfl) rfl rfl hQ ?_; (simp only [Act.put, List.setIfInBounds_toArray, List.set_cons_succ, List.set_cons_zero, List.drop_succ_cons, List.drop_zero, List.take_succ_cons, List.take_zero, Nat.reduceAdd]))
  refine q_nil ?_
  have hR := hid (X.rtxn (t := tB F) (vm := .slice am 1 cm) (vd := .slice ad 0 cd) (vr := .slice ar 0 cr) (by simp [tB]) (by simp [tB]) (by simp [tB]) (by simp [tB]) (by simp [tB]) (by simp [tB]))
  replace hOp := hid (hOp.out _ _ hR.out)
  simp only [txnV, tB, hnd0] at hOp
  clear hR
  go_wp2_with (first
    | (refine at_mem rfl ?_; (first | (refine at_load rfl ?_; (first | (refine c_load1 rfl _ _ rfl rfl X (by repeat (first | exact ReadA.here rfl | apply ReadA.there)) ?_) | (refine c_loadN rfl _ _ rfl rfl X (by repeat (first | exact ReadB.here (Nat.le_of_ble_eq_true rfl) | apply ReadB.there)) ?_))) | (refine at_store rfl ?_; (first | (refine c_store1 rfl _ _ _ rfl rfl (by first | exact EvR.const _ | exact EvR.tmp rfl rfl) X rfl rfl (by repeat (first | exact PutA.here (Nat.le_of_ble_eq_true rfl) | apply PutA.there)) ?_; intro w X2; (try simp only [upd] at X2); replace X := X2; clear X2) | (refine c_storeN rfl _ _ _ rfl rfl rfl X rfl rfl (by repeat (first | exact PutA.here (Nat.le_of_ble_eq_true rfl) | apply PutA.there)) ?_; intro w X2; (try simp only [upd] at X2); replace X := X2; clear X2))) | (refine m_alloc rfl _ rfl X ?_; intro g w X2; (replace X := X2; clear X2)) | (refine m_box rfl _ _ rfl (by first | exact EvR.const _ | exact EvR.tmp rfl rfl) rfl X ?_; intro g w X2; (replace X := X2; clear X2))); (simp only [Act.put, List.setIfInBounds_toArray, List.set_cons_succ, List.set_cons_zero, List.drop_succ_cons, List.drop_zero, List.take_succ_cons, List.take_zero, Nat.reduceAdd]))
    | (go_at_call 42; go_loud ((with_reducible refine (hOp.out).mono ?_); rintro e w1 ⟨rfl, hb1⟩; replace X := X.call hb1; clear hb1)))
  go_ret
  exact ⟨rfl, X.below⟩
end Go.Proofs.Ytjhmfljlclajnac

namespace Go.Proofs.Ytjhmfljlclajnac
open Go.RowKit Wb
set_option linter.unusedVariables false
set_option linter.unusedSimpArgs false
set_option maxRecDepth 100000
set_option maxHeartbeats 8000000
end Go.Proofs.Ytjhmfljlclajnac

namespace Go.Proofs.Ytjhmfljlclajnac
open Go.RowKit Wb
set_option linter.unusedSimpArgs false
set_option maxRecDepth 100000
theorem run_neq_hnds (w : World) (o0 o1 o2 : Bool) (l0 l1 l2 : Int) :
    (binOp .neq 26 (.agg #[.bool o0, .int .i64 l0, .bool o1, .int .i64 l1, .bool o2, .int .i64 l2]) (.agg #[.bool o0, .int .i64 l0, .bool o1, .int .i64 l1, .bool o2, .int .i64 l2])).run Try.prog w = .ok (.bool false) w := by
  obtain ⟨i, hi, _⟩ := info_parts (show (Try.prog.info? 25).map (fun i => (i.zero, i.size, i.bytes)) = some (some (.agg #[.bool false, .int .i64 0]), 2, 16) by kernel_rfl)
  have hc : Try.prog.cellsOf 25 = 2 := by kernel_rfl
  rw [run_neq_struct, run_equalIn_array w 9999 _ _ Try.underlying26 hi, hc, show List.range 3 = [0, 1, 2] from rfl]
  simp [Op.eqItems, go_sem]
end Go.Proofs.Ytjhmfljlclajnac

namespace Go.Proofs.Ytjhmfljlclajnac
open Go.RowKit Wb
set_option linter.unusedVariables false
set_option linter.unusedSimpArgs false
set_option maxRecDepth 100000
set_option maxHeartbeats 2000000

theorem ref_SameCopies (l : List Cpy) (v1 v2 : Value) (w : World) (h1 : RL cpyC w v1 l) (h2 : RL cpyC w v2 l) (hl : l.length ≤ 5864062014805) :
    Calls Try.prog 36 #[v1, v2] w fun e w' => e = .returned (.bool true) ∧ Below w.heap.size w w' := by
  obtain ⟨a, cap, rfl, _⟩ := h1.form
  obtain ⟨b, bcap, rfl, _⟩ := h2.form
  have hle : ((l.length : Int) != (l.length : Int)) = false := by simp
  replace h1 := hid h1
  replace h2 := hid h2
  go_enter Try.func36, Try.ntmps36
  go_wp2
  go_loopw [13] (fun i wr => ∃ k : Nat, k ≤ l.length ∧ i = .int .i64 k ∧ Below w.heap.size w wr) (fun i _ => l.length - (intOf i).toNat)
  case atStart => exact ⟨0, Nat.zero_le _, rfl, b0 w⟩
  case round =>
    obtain ⟨k, hk, rfl, nx⟩ := hrel
    by_cases hlt : k < l.length
    · obtain ⟨b1, o1, rfl, c0, c1⟩ := RL.at2 (fun x => .int .i64 x.block) (fun x => .string x.text) (fun _ => rfl) (h1.out.below nx) hlt
      obtain ⟨b2, o2, rfl, d0, d1⟩ := RL.at2 (fun x => .int .i64 x.block) (fun x => .string x.text) (fun _ => rfl) (h2.out.below nx) hlt
      generalize l[k] = x at *
      go_wp2
      go_quiet (fail)
      go_wp2
      go_roundw
      case rel => exact ⟨k + 1, by omega, by go_num, belowDrewN nx⟩
      case measure => simp [intOf]; omega
    · go_wp2
      go_ret
      exact ⟨rfl, nx⟩

theorem ref_SameTxn (t : Txn) (v1 v2 : Value) (w : World) (h1 : RTxn w v1 t) (h2 : RTxn w v2 t) :
    Calls Try.prog 9 #[v1, v2] w fun e w' => e = .returned (.bool true) ∧ Below w.heap.size w w' := by
  obtain ⟨vm, vd, vr, rfl, hm, hd, hr, n1, n2, n3⟩ := h1
  obtain ⟨vm2, vd2, vr2, rfl, hm2, hd2, hr2, _⟩ := h2
  unfold txnV
  have hSm := fun w h1 h2 => ref_SameCopies t.mt vm vm2 w h1 h2 n1
  have hSd := fun w h1 h2 => ref_SameCopies t.dt vd vd2 w h1 h2 n2
  obtain ⟨am, cm, rfl, _⟩ := hm.form
  obtain ⟨am2, cm2, rfl, _⟩ := hm2.form
  obtain ⟨ad, cd, rfl, _⟩ := hd.form
  obtain ⟨ad2, cd2, rfl, _⟩ := hd2.form
  obtain ⟨ar, cr, rfl, _⟩ := hr.form
  obtain ⟨ar2, cr2, rfl, _⟩ := hr2.form
  have hle : ((t.rev.length : Int) != (t.rev.length : Int)) = false := by simp
  replace hm := hid hm; replace hm2 := hid hm2; replace hd := hid hd; replace hd2 := hid hd2; replace hr := hid hr; replace hr2 := hid hr2; replace hSm := hid hSm; replace hSd := hid hSd
  obtain ⟨seq, mt, dt, rev, ⟨on0, l0⟩, ⟨on1, l1⟩, ⟨on2, l2⟩⟩ := t
  dsimp only at *
  have hH := fun w => run_neq_hnds w on0 on1 on2 l0 l1 l2
  have k0 := (Blk.new w #[.int .i64 seq, .slice am mt.length cm, .slice ad dt.length cd, .slice ar rev.length cr, .bool on0, .int .i64 l0, .bool on1, .int .i64 l1, .bool on2, .int .i64 l2] 28).alloc (.cells #[.int .i64 seq, .slice am2 mt.length cm2, .slice ad2 dt.length cd2, .slice ar2 rev.length cr2, .bool on0, .int .i64 l0, .bool on1, .int .i64 l1, .bool on2, .int .i64 l2] 28)
  have k1 : Blk ((w.alloc (.cells #[.int .i64 seq, .slice am mt.length cm, .slice ad dt.length cd, .slice ar rev.length cr, .bool on0, .int .i64 l0, .bool on1, .int .i64 l1, .bool on2, .int .i64 l2] 28)).alloc (.cells #[.int .i64 seq, .slice am2 mt.length cm2, .slice ad2 dt.length cd2, .slice ar2 rev.length cr2, .bool on0, .int .i64 l0, .bool on1, .int .i64 l1, .bool on2, .int .i64 l2] 28)) (w.heap.size + 1) #[.int .i64 seq, .slice am2 mt.length cm2, .slice ad2 dt.length cd2, .slice ar2 rev.length cr2, .bool on0, .int .i64 l0, .bool on1, .int .i64 l1, .bool on2, .int .i64 l2] 28 := Blk.newAt (by simp)
  have nx0 : Below w.heap.size w ((w.alloc (.cells #[.int .i64 seq, .slice am mt.length cm, .slice ad dt.length cd, .slice ar rev.length cr, .bool on0, .int .i64 l0, .bool on1, .int .i64 l1, .bool on2, .int .i64 l2] 28)).alloc (.cells #[.int .i64 seq, .slice am2 mt.length cm2, .slice ad2 dt.length cd2, .slice ar2 rev.length cr2, .bool on0, .int .i64 l0, .bool on1, .int .i64 l1, .bool on2, .int .i64 l2] 28)) := bal (bal (b0 w) _) _
  have hne : ¬ (w.heap.size = w.heap.size + 1) := by omega
  go_enter Try.func9, Try.ntmps9
  go_wp2_with (first
    | (go_at_call_of 36 (Value.slice am2 mt.length cm2); go_loud (refine (hSm.out _ (hm.out.below nx0) (hm2.out.below nx0)).mono ?_; rintro e w1 ⟨rfl, hb1⟩; replace k0 := k0.step hb1; replace k1 := k1.step hb1; have nx1 := bgo nx0 hb1; have l0' := k0.lt; have l1' := k1.lt; have c0 := k0.cell 2; have c1 := k1.cell 2; have c2 := k0.cell 3; have c3 := k1.cell 3; simp only [List.getElem?_toArray, List.getElem?_cons_zero, List.getElem?_cons_succ] at c0 c1 c2 c3))
    | (go_at_call_of 36 (Value.slice ad2 dt.length cd2); go_loud (refine (hSd.out _ (hd.out.below nx1) (hd2.out.below nx1)).mono ?_; rintro e w2 ⟨rfl, hb2⟩; replace k0 := k0.step hb2; replace k1 := k1.step hb2; have nx2 := bgo nx1 hb2; (try clear l0' l1' c0 c1 c2 c3); have l0' := k0.lt; have l1' := k1.lt; have c2 := k0.cell 3; have c3 := k1.cell 3; simp only [List.getElem?_toArray, List.getElem?_cons_zero, List.getElem?_cons_succ] at c2 c3)))
  clear l0' l1' c2 c3
  go_loopw [46] (fun i wr => ∃ k : Nat, k ≤ rev.length ∧ i = .int .i64 k ∧ Below w2.heap.size w2 wr) (fun i _ => rev.length - (intOf i).toNat)
  case atStart => exact ⟨0, Nat.zero_le _, rfl, b0 w2⟩
  case round =>
    obtain ⟨k, hk, rfl, nx⟩ := hrel
    have nx3 := bgo nx2 nx
    by_cases hlt : k < rev.length
    · obtain ⟨b1, o1, rfl, d0⟩ := RL.at1 (fun x => .int .i64 x) (fun _ => rfl) (hr.out.below nx3) hlt
      obtain ⟨b2, o2, rfl, d1⟩ := RL.at1 (fun x => .int .i64 x) (fun _ => rfl) (hr2.out.below nx3) hlt
      replace k0 := k0.step nx; replace k1 := k1.step nx
      have l0' := k0.lt; have l1' := k1.lt; have c2 := k0.cell 3; have c3 := k1.cell 3; simp only [List.getElem?_toArray, List.getElem?_cons_zero, List.getElem?_cons_succ] at c2 c3
      generalize rev[k] = x at *
      go_wp2
      go_quiet (fail)
      go_wp2
      go_roundw
      case rel => exact ⟨k + 1, by omega, by go_num, belowDrewN nx⟩
      case measure => simp [intOf]; omega
    · go_wp2
      go_ret
      exact ⟨rfl, nx3⟩
end Go.Proofs.Ytjhmfljlclajnac

namespace Wb
open Go Go.RowKit
theorem RTxn.setH {w : World} {t t' : Txn} {vm vd vr : Value} (h : RTxn w (txnV t vm vd vr) t) (e1 : t'.mt = t.mt) (e2 : t'.dt = t.dt) (e3 : t'.rev = t.rev) : RTxn w (txnV t' vm vd vr) t' := by
  obtain ⟨um, ud, ur, hv, r1, r2, r3, h1, h2, h3⟩ := h
  simp only [txnV, Value.agg.injEq, Array.mk.injEq, List.cons.injEq, and_true, true_and] at hv
  obtain ⟨rfl, rfl, rfl⟩ := hv
  exact ⟨_, _, _, rfl, by rw [e1]; exact r1, by rw [e2]; exact r2, by rw [e3]; exact r3, by rw [e1]; exact h1, by rw [e2]; exact h2, by rw [e3]; exact h3⟩
theorem begT_same (t : Txn) (h n f : Int) : (begT t h n f).mt = t.mt ∧ (begT t h n f).dt = t.dt ∧ (begT t h n f).rev = t.rev := by
  unfold begT; split
  · exact (setH_same _ _ _).2
  · exact ⟨rfl, rfl, rfl⟩
theorem stopT_same (t : Txn) (h : Int) : (stopT t h).mt = t.mt ∧ (stopT t h).dt = t.dt ∧ (stopT t h).rev = t.rev := by
  unfold stopT; split
  · exact (setH_same _ _ _).2
  · exact ⟨rfl, rfl, rfl⟩
/-- Rows of a call's own, three at once. -/
theorem St.addOTxn {S : List Nat} {w0 w w' : World} {L : List Ent} {R : List Rd} (X : St S w0 w L R) (hb : Below w.heap.size w w') {tc ti : TypeId} {vm vd vr : Value} {t : Txn} (h1 : Own cpyC w.heap.size tc 2 w' vm t.mt) (h2 : Own cpyC w.heap.size tc 2 w' vd t.dt) (h3 : Own intC w.heap.size ti 1 w' vr t.rev) :
    St S w0 w' L (Rd.of cpyC vm t.mt :: Rd.of cpyC vd t.dt :: Rd.of intC vr t.rev :: R) := by
  have X1 := X.call hb
  have go : ∀ {α : Type} {f : α → List Value} {e : TypeId} {c : Nat} {v : Value} {l : List α}, Own f w.heap.size e c w' v l → l.flatMap f = [] ∨ ∀ b, vblk v = some b → ∀ e ∈ L, e.g ≠ b := fun ho => .inr fun b hb e he heq => by
    have a1 := ho.fresh (Nat.le_refl _) b hb
    have a2 := X.lts e he
    omega
  exact ((X1.addR h3.reads (go h3)).addR h2.reads (go h2)).addR h1.reads (go h1)
end Wb
namespace Go.Proofs.Ytjhmfljlclajnac
open Go.RowKit Wb
set_option linter.unusedVariables false
set_option linter.unusedSimpArgs false
set_option maxRecDepth 100000
set_option maxHeartbeats 8000000
end Go.Proofs.Ytjhmfljlclajnac

namespace Go.Proofs.Ytjhmfljlclajnac
open Go.RowKit Wb
set_option linter.unusedVariables false
set_option linter.unusedSimpArgs false
set_option maxRecDepth 100000

theorem takeE_bad {r : Ring} {n : Int} (h : goodR r = false ∨ n < 0) : takeE r n = 2 := by unfold takeE; rw [if_pos h]
theorem takeE_full {r : Ring} {n : Int} (h : ¬ (goodR r = false ∨ n < 0)) (h2 : n > 24 - r.used) : takeE r n = 6 := by unfold takeE; rw [if_neg h, if_pos h2]
theorem takeE_ok {r : Ring} {n : Int} (h : ¬ (goodR r = false ∨ n < 0)) (h2 : ¬ n > 24 - r.used) : takeE r n = 0 := by unfold takeE; rw [if_neg h, if_neg h2]
theorem takeR_bad {r : Ring} {n : Int} (h : takeE r n ≠ 0) : takeR r n = r := by unfold takeR; rw [if_neg h]
theorem takeL_bad {r : Ring} {n : Int} (h : takeE r n ≠ 0) : takeL r n = [] := by unfold takeL; rw [if_neg h]
theorem takeR_ok {r : Ring} {n : Int} (h : takeE r n = 0) : takeR r n = ⟨(r.head + n) % 24, r.used + n⟩ := by unfold takeR; rw [if_pos h]
theorem takeL_ok {r : Ring} {n : Int} (h : takeE r n = 0) : takeL r n = places r.head n.toNat := by unfold takeL; rw [if_pos h]


end Go.Proofs.Ytjhmfljlclajnac

namespace Go.Proofs.Ytjhmfljlclajnac
open Go.RowKit Wb
set_option linter.unusedVariables false
set_option linter.unusedSimpArgs false
set_option maxRecDepth 100000

end Go.Proofs.Ytjhmfljlclajnac

namespace Go.Proofs.Ytjhmfljlclajnac
open Go.RowKit Wb
set_option linter.unusedVariables false
set_option linter.unusedSimpArgs false
set_option maxRecDepth 100000

theorem take22 : takeR ⟨22, 0⟩ 3 = ⟨1, 3⟩ ∧ takeL ⟨22, 0⟩ 3 = [22, 23, 0] ∧ takeE ⟨22, 0⟩ 3 = 0 := ⟨rfl, rfl, rfl⟩

end Go.Proofs.Ytjhmfljlclajnac

namespace Wb
open Go Go.RowKit Go.MapKept

/-- Block b is a map that holds f. -/
def IMap (w : World) (b : Nat) (f : Int → Option Value) : Prop :=
  ∃ es clock, w.heap[b]? = some (.map es clock) ∧ Stamped es clock ∧ (∀ x ∈ es.toList, IsKey (.int .i64) x.key) ∧ ∀ k v, f k = some v ↔ ∃ x ∈ es.toList, x.key = .int .i64 k ∧ x.val = v
section
variable {w w' : World} {b : Nat} {f : Int → Option Value} {P : Program} {t kt e : TypeId}
theorem IMap.lt (h : IMap w b f) : b < w.heap.size := by
  obtain ⟨es, c, h1, _⟩ := h
  exact (Array.getElem?_eq_some_iff.1 h1).1
theorem IMap.below {B : Nat} (h : IMap w b f) (hb : Below B w w') (hlt : b < B) : IMap w' b f := by
  obtain ⟨es, c, h1, r⟩ := h
  exact ⟨es, c, (hb.block b hlt).trans h1, r⟩
theorem IMap.step (h : IMap w b f) (hb : Below w.heap.size w w') : IMap w' b f := h.below hb h.lt
theorem IMap.drewN (h : IMap w b f) (n : Nat) : IMap (w.drewN n) b f := h
theorem IMap.drew (h : IMap w b f) : IMap w.drew b f := h
theorem IMap.alloc (h : IMap w b f) (o : Obj) : IMap (w.alloc o) b f := by
  have hl := h.lt
  obtain ⟨es, c, h1, r⟩ := h
  exact ⟨es, c, (heap_alloc_old w o hl).trans h1, r⟩
theorem IMap.set_other (h : IMap w b f) (p : Addr) (v : Value) (hne : b ≠ p.block) : IMap (w.setCell p v) b f := by
  obtain ⟨es, c, h1, r⟩ := h
  exact ⟨es, c, (Below.heap_setCell w p v b hne).trans h1, r⟩
theorem IMap.grown {row : Option Nat} (h : IMap w b f) (hg : w.grownBy w' row) (hne : some b ≠ row) : IMap w' b f := by
  have hl := h.lt
  obtain ⟨es, c, h1, r⟩ := h
  exact ⟨es, c, (hg.block b hl hne).trans h1, r⟩
theorem IMap.congr {g : Int → Option Value} (h : IMap w b f) (hfg : ∀ k, f k = g k) : IMap w b g := by
  obtain rfl : f = g := funext hfg
  exact h
theorem IMap.made (w : World) : IMap (w.alloc (.map #[] 0)) w.heap.size (fun _ => none) :=
  ⟨#[], 0, (MapKept.heap_alloc w _).1, stamped_empty 0, by simp, by simp⟩

theorem IMap.at_ {w : World} {b : Nat} {f : Int → Option Value} (h : IMap w b f) (k : Int) : ∃ es clock, w.heap[b]? = some (.map es clock) ∧
    ((f k = none ∧ Instr.findNow (.int .i64) (.int .i64 k) es.toList 0 = some none ∧ ∀ x ∈ es.toList, x.key ≠ .int .i64 k) ∨
     ∃ j x, Instr.findNow (.int .i64) (.int .i64 k) es.toList 0 = some (some (j, x.val)) ∧ es[j]? = some x ∧ x.key = .int .i64 k ∧ f k = some x.val) := by
  obtain ⟨es, c, h1, h2, h3, h4⟩ := h
  refine ⟨es, c, h1, ?_⟩
  rcases findNow_spec (d := .int .i64) (k := .int .i64 k) rfl es.toList 0 h3 with ⟨g1, g2⟩ | ⟨j, x, g1, g2, g3⟩
  · refine .inl ⟨?_, g1, g2⟩
    cases hf : f k with
    | none => rfl
    | some v =>
      obtain ⟨x, hx, hk, _⟩ := (h4 k v).1 hf
      exact absurd hk (g2 x hx)
  · rw [Nat.zero_add] at g1
    exact .inr ⟨j, x, g1, by simpa using g2, g3, (h4 k x.val).2 ⟨x, List.mem_of_getElem? g2, g3, rfl⟩⟩

/-- 'm[k]', 'v, ok := m[k]'. -/
theorem IMap.lookup (h : IMap w b f) (ht : P.underlying t = some (.map kt e)) (hk : P.underlying kt = some (.int .i64)) {z : Value} (hz : (zeroValue e).run P w = .ok z w) (k : Int) :
    (Instr.lookup t (.map (some b)) (.int .i64 k) false).run P w = .ok ((f k).getD z) w ∧
    (Instr.lookup t (.map (some b)) (.int .i64 k) true).run P w = .ok (.tuple #[(f k).getD z, .bool (f k).isSome]) w := by
  obtain ⟨es, c, h1, hh⟩ := h.at_ k
  have hc := fun n e' => run_checkKey (P := P) (w := w) hk (k := .int .i64 k) rfl e' n
  rcases hh with ⟨hf, g1, _⟩ | ⟨j, x, g1, g2, g3, hf⟩
  · have hfk := run_findKey (P := P) (w := w) hk g1
    rw [hf]
    constructor <;> simp [Instr.lookup, run_underlying ht, run_getObj_map h1, hc 9999, hfk, hz, Result.andThen]
  · have hfk := run_findKey (P := P) (w := w) hk g1
    rw [hf]
    constructor <;> simp [Instr.lookup, run_underlying ht, run_getObj_map h1, hc 9999, hfk, Result.andThen]

/-- A map that is nil. -/
theorem look_nil (ht : P.underlying t = some (.map kt e)) (hk : P.underlying kt = some (.int .i64)) {z : Value} (hz : (zeroValue e).run P w = .ok z w) (k : Int) :
    (Instr.lookup t (.map none) (.int .i64 k) false).run P w = .ok z w ∧ (Instr.lookup t (.map none) (.int .i64 k) true).run P w = .ok (.tuple #[z, .bool false]) w := by
  have hc := fun n e' => run_checkKey (P := P) (w := w) hk (k := .int .i64 k) rfl e' n
  have hfk := run_findKey (P := P) (w := w) (l := []) (k := .int .i64 k) (d := .int .i64) hk rfl
  constructor <;> simp [Instr.lookup, run_underlying ht, hc 9999, hfk, hz, Result.andThen]

/-- Nothing but block b has turned. -/
structure Turned (w w' : World) (b : Nat) : Prop where
  os : w'.os = w.os
  tape : w'.tape = w.tape
  output : w'.output = w.output
  size : w'.heap.size = w.heap.size
  block : ∀ i, i ≠ b → w'.heap[i]? = w.heap[i]?

theorem setBlock_turned {es : Array MapEntry} {c : Nat} (hb : w.heap[b]? = some (.map es c)) (o : Obj) : Turned w (ChangeMaps.setBlock w b o) b :=
  ⟨rfl, rfl, rfl, by simp [ChangeMaps.setBlock], fun i hi => ChangeMaps.heap_setBlock_other hb _ hi⟩
theorem Turned.blk (h : Turned w w' b) {g : Nat} {cs : Array Value} {ty : TypeId} (hg : Blk w g cs ty) (hne : g ≠ b) : Blk w' g cs ty := (h.block g hne).trans hg
theorem Turned.imap (h : Turned w w' b) {g : Nat} {f : Int → Option Value} (hg : IMap w g f) (hne : g ≠ b) : IMap w' g f := by
  obtain ⟨es, c, h1, r⟩ := hg
  exact ⟨es, c, (h.block g hne).trans h1, r⟩
theorem Turned.below (h : Turned w w' b) {W : World} {B : Nat} (hw : Below B W w) (hlt : B ≤ b) : Below B W w' :=
  ⟨h.os.trans hw.os, by rw [h.tape]; exact hw.tape, by rw [h.output]; exact hw.output, by rw [h.size]; exact hw.size, fun i hi => (h.block i (by omega)).trans (hw.block i hi)⟩
theorem Turned.grown (h : Turned w w' b) : w.grownBy w' (some b) := ⟨h.os, h.tape, h.output, by rw [h.size]; exact Nat.le_refl _, fun i hi hne => h.block i (fun hh => hne (by rw [hh]))⟩

/-- 'm[k] = v'. -/
theorem IMap.update (h : IMap w b f) (ht : P.underlying t = some (.map kt e)) (hk : P.underlying kt = some (.int .i64)) (k : Int) (v : Value) :
    ∃ w', (Instr.mapUpdate t (.map (some b)) (.int .i64 k) v).run P w = .ok () w' ∧ IMap w' b (fun x => if x = k then some v else f x) ∧ Turned w w' b := by
  obtain ⟨es, c, h1, h2, h3, h4⟩ := h
  have hc := fun n e' => run_checkKey (P := P) (w := w) hk (k := .int .i64 k) rfl e' n
  rcases findNow_spec (d := .int .i64) (k := .int .i64 k) rfl es.toList 0 h3 with ⟨g1, g2⟩ | ⟨j, x, g1, g2, g3⟩
  · have hfk := run_findKey (P := P) (w := w) hk g1
    refine ⟨ChangeMaps.setBlock w b (.map (es.push { key := .int .i64 k, val := v, born := c }) (c + 1)), ?_, ?_, setBlock_turned h1 _⟩
    · simp [Instr.mapUpdate, run_underlying ht, run_getObj_map h1, hc 9999, hfk, run_setObj_map _ h1, Result.andThen, ChangeMaps.setBlock]
    · refine ⟨_, _, ChangeMaps.heap_setBlock_same h1 _, stamped_push h2 g2, ?_, ?_⟩
      · intro y hy
        simp only [Array.toList_push, List.mem_append, List.mem_singleton] at hy
        rcases hy with hy | rfl
        · exact h3 y hy
        · rfl
      · intro q u
        simp only [Array.toList_push, List.mem_append, List.mem_singleton]
        by_cases hq : q = k
        · subst hq
          simp only [if_pos]
          constructor
          · intro hu
            cases hu
            exact ⟨_, .inr rfl, rfl, rfl⟩
          · rintro ⟨y, hy | rfl, e1, e2⟩
            · exact absurd e1 (g2 y hy)
            · simp at e2; rw [e2]
        · simp only [if_neg hq, h4 q u]
          constructor
          · rintro ⟨y, hy, e1, e2⟩
            exact ⟨y, .inl hy, e1, e2⟩
          · rintro ⟨y, hy | rfl, e1, e2⟩
            · exact ⟨y, hy, e1, e2⟩
            · simp at e1; exact absurd e1.symm hq
  · rw [Nat.zero_add] at g1
    have hj : es[j]? = some x := by simpa using g2
    have hfk := run_findKey (P := P) (w := w) hk g1
    have hkey : ∀ e', es[j]? = some e' → ({ e' with key := .int .i64 k, val := v } : MapEntry).key = e'.key := fun e' he' => by rw [hj] at he'; cases he'; exact g3.symm
    refine ⟨ChangeMaps.setBlock w b (.map (es.modify j fun e => { e with key := .int .i64 k, val := v }) c), ?_, ?_, setBlock_turned h1 _⟩
    · simp [Instr.mapUpdate, run_underlying ht, run_getObj_map h1, hc 9999, hfk, hj, g3, run_keyThatStays (d := .int .i64) (k := .int .i64 k) rfl, run_setObj_map _ h1, Result.andThen, ChangeMaps.setBlock]
    · have hst := stamped_modify h2 j (fun e => { e with key := .int .i64 k, val := v }) (fun _ _ => rfl) (fun e' _ he' => hkey e' he')
      refine ⟨_, _, ChangeMaps.heap_setBlock_same h1 _, hst, isKey_modify h3 _ _ hkey, ?_⟩
      have hmem : ∀ y, y ∈ (es.modify j fun e => { e with key := .int .i64 k, val := v }).toList ↔ (y = { x with key := .int .i64 k, val := v } ∨ ∃ i, i ≠ j ∧ es[i]? = some y) := by
        intro y
        rw [List.mem_iff_getElem?]
        simp only [Array.getElem?_toList, Array.getElem?_modify]
        constructor
        · rintro ⟨i, hi⟩
          by_cases hij : j = i
          · subst hij
            simp [hj] at hi
            exact .inl hi.symm
          · simp [hij] at hi
            exact .inr ⟨i, fun h => hij h.symm, hi⟩
        · rintro (rfl | ⟨i, hi, hy⟩)
          · exact ⟨j, by simp [hj]⟩
          · exact ⟨i, by simp [Ne.symm hi, hy]⟩
      have hun : ∀ i y, es[i]? = some y → y.key = .int .i64 k → i = j := by
        intro i y hi hy
        have hnd := h2.2.2
        have hi' : (es.toList.map (·.key))[i]? = some (.int .i64 k) := by simp [hi, hy]
        have hj' : (es.toList.map (·.key))[j]? = some (.int .i64 k) := by simp [hj, g3]
        have hil := (List.getElem?_eq_some_iff.1 hi').1
        exact (List.getElem?_inj hil hnd).1 (hi'.trans hj'.symm)
      intro q u
      by_cases hq : q = k
      · subst hq
        simp only [if_pos]
        constructor
        · intro hu
          cases hu
          exact ⟨_, (hmem _).2 (.inl rfl), rfl, rfl⟩
        · rintro ⟨y, hy, e1, e2⟩
          rcases (hmem y).1 hy with rfl | ⟨i, hi, hy⟩
          · simp at e2; rw [e2]
          · exact absurd (hun i y hy e1) hi
      · simp only [if_neg hq, h4 q u]
        constructor
        · rintro ⟨y, hy, e1, e2⟩
          obtain ⟨i, hi⟩ := List.mem_iff_getElem?.1 hy
          refine ⟨y, (hmem y).2 (.inr ⟨i, ?_, by simpa using hi⟩), e1, e2⟩
          rintro rfl
          rw [g2] at hi
          cases hi
          rw [g3] at e1
          simp at e1
          exact hq e1.symm
        · rintro ⟨y, hy, e1, e2⟩
          rcases (hmem y).1 hy with rfl | ⟨i, hi, hy⟩
          · simp at e1; exact absurd e1.symm hq
          · exact ⟨y, List.mem_iff_getElem?.2 ⟨i, by simpa using hy⟩, e1, e2⟩
end
end Wb

namespace Go.Proofs.Ytjhmfljlclajnac
open Go.RowKit Wb
set_option linter.unusedVariables false
set_option linter.unusedSimpArgs false
set_option maxRecDepth 100000
set_option maxHeartbeats 4000000

theorem tmod_pos (k n : Int) (hn : 0 < n) : -n < k.tmod n ∧ k.tmod n < n ∧ (k.tmod n < 0 → k.tmod n + n = k % n) ∧ (¬ k.tmod n < 0 → k.tmod n = k % n) := by
  have h1 := Int.emod_nonneg k (show n ≠ 0 by omega)
  have h2 := Int.emod_lt_of_pos k hn
  by_cases h0 : 0 ≤ k
  · rw [Int.tmod_eq_emod_of_nonneg h0]
    refine ⟨by omega, h2, fun h => by omega, fun _ => rfl⟩
  · have e : k = -(-k) := by omega
    have g1 := Int.emod_nonneg (-k) (show n ≠ 0 by omega)
    have g2 := Int.emod_lt_of_pos (-k) hn
    have e2 : k.tmod n = -((-k) % n) := by
      conv => lhs; rw [e]
      rw [Int.neg_tmod, Int.tmod_eq_emod_of_nonneg (by omega)]
    have e3 : k % n = if (-k) % n = 0 then 0 else n - (-k) % n := by
      have q1 : k = n * (-((-k) / n)) + -((-k) % n) := by have := Int.mul_ediv_add_emod (-k) n; rw [Int.mul_neg]; omega
      split
      · rename_i hz
        have : n ∣ -k := Int.dvd_of_emod_eq_zero hz
        exact Int.emod_eq_zero_of_dvd ((Int.dvd_neg).1 this)
      · rename_i hz
        have q2 : k = n * (-((-k) / n) - 1) + (n - (-k) % n) := by rw [Int.mul_sub]; omega
        conv => lhs; rw [q2]
        rw [Int.mul_add_emod_self_left]
        exact Int.emod_eq_of_lt (by omega) (by omega)
    rw [e2]
    refine ⟨by omega, by omega, fun h => ?_, fun h => ?_⟩
    · rw [e3, if_neg (by omega)]; omega
    · rw [e3, if_pos (by omega)]; omega

theorem keep_pick (k n : Int) (w : World) (hn : 0 < n) (hn2 : n ≤ 1099511627776) :
    Calls Try.prog 18 #[.int .i64 k, .int .i64 n] w fun e w' => e = .returned (.int .i64 (k % n)) ∧ w = w' := by
  obtain ⟨t1, t2, t3, t4⟩ := tmod_pos k n hn
  have hne : n ≠ 0 := by omega
  have hne' : (n == 0) = false := beq_eq_false_iff_ne.2 hne
  by_cases hlt : k.tmod n < 0
  · have e := hid (t3 hlt)
    clear t3 t4
    have hd : decide (k.tmod n < 0) = true := decide_eq_true hlt
    go_enter Try.func18, Try.ntmps18
    go_wp2
    go_ret
    exact ⟨ret_i e.out, rfl⟩
  · have e := hid (t4 hlt)
    clear t3 t4
    have hlt2 : 0 ≤ k.tmod n := by omega
    go_enter Try.func18, Try.ntmps18
    go_wp2
    go_ret
    exact ⟨ret_i e.out, rfl⟩

/-! ### The plain law -/
theorem take_two {r : Ring} {n m : Int} (hn : 0 ≤ n) (hm : 0 ≤ m) (h1 : takeE r n = 0) (h2 : takeE (takeR r n) m = 0) :
    goodR r = true ∧ n + m ≤ 24 - r.used ∧ takeR r n = ⟨(r.head + n) % 24, r.used + n⟩ ∧ takeL r n = places r.head n.toNat ∧
    takeR (takeR r n) m = ⟨(r.head + (n + m)) % 24, r.used + (n + m)⟩ ∧ takeL (takeR r n) m = places ((r.head + n) % 24) m.toNat ∧
    takeE r (n + m) = 0 ∧ takeR r (n + m) = ⟨(r.head + (n + m)) % 24, r.used + (n + m)⟩ ∧ takeL r (n + m) = places r.head (n + m).toNat := by
  have e1 := takeR_ok h1
  rw [e1] at h2
  have g1 : ¬ (goodR r = false ∨ n < 0) := fun h => by rw [takeE_bad h] at h1; cases h1
  have g2 : ¬ n > 24 - r.used := fun h => by rw [takeE_full g1 h] at h1; cases h1
  have g3 : ¬ (goodR ⟨(r.head + n) % 24, r.used + n⟩ = false ∨ m < 0) := fun h => by rw [takeE_bad h] at h2; cases h2
  have g4 : ¬ m > 24 - (r.used + n) := fun h => by rw [takeE_full g3 h] at h2; cases h2
  have hg : goodR r = true := by
    cases hh : goodR r
    · exact absurd (.inl hh) g1
    · rfl
  have e3 : takeE r (n + m) = 0 := takeE_ok (fun h => by rcases h with h | h; (· rw [hg] at h; cases h); omega) (by omega)
  refine ⟨hg, by omega, e1, takeL_ok h1, ?_, ?_, e3, takeR_ok e3, takeL_ok e3⟩
  · rw [e1, takeR_ok h2]
    simp only [Ring.mk.injEq]
    exact ⟨by omega, by omega⟩
  · rw [e1, takeL_ok h2]
theorem take_not {r : Ring} {n m : Int} (hn : 0 ≤ n) (hm : 0 ≤ m) (h : takeE r n ≠ 0 ∨ takeE r n = 0 ∧ takeE (takeR r n) m ≠ 0) : takeE r (n + m) ≠ 0 := by
  intro h3
  have g1 : ¬ (goodR r = false ∨ n + m < 0) := fun h => by rw [takeE_bad h] at h3; cases h3
  have g2 : ¬ n + m > 24 - r.used := fun h => by rw [takeE_full g1 h] at h3; cases h3
  have hg : goodR r = true := by
    cases hh : goodR r
    · exact absurd (.inl hh) g1
    · rfl
  have hg' := (goodR_iff r).1 hg
  rcases h with h | ⟨h, h2⟩
  · exact h (takeE_ok (fun h => by rcases h with h | h; (· rw [hg] at h; cases h); omega) (by omega))
  · rw [takeR_ok h] at h2
    refine h2 (takeE_ok (fun h => ?_) ?_)
    · rcases h with h | h
      · rw [goodR_not] at h
        apply h
        dsimp only
        omega
      · omega
    · dsimp only; omega
/-- What is marked behind k rounds. -/
def marked (l : List Int) (k : Nat) (x : Int) : Option Value := if x ∈ l.take k then some (.bool true) else none
theorem marked_step {l : List Int} {k : Nat} (hk : k < l.length) (x : Int) : (if x = l[k] then some (.bool true) else marked l k x) = marked l (k + 1) x := by
  unfold marked
  have e : x ∈ l.take (k + 1) ↔ x = l[k] ∨ x ∈ l.take k := by
    rw [List.take_succ_eq_append_getElem hk, List.mem_append, List.mem_singleton]; exact Or.comm
  by_cases h : x = l[k]
  · rw [if_pos h, if_pos (e.2 (.inl h))]
  · rw [if_neg h]
    by_cases h2 : x ∈ l.take k
    · rw [if_pos h2, if_pos (e.2 (.inr h2))]
    · rw [if_neg h2, if_neg (fun hh => (e.1 hh).elim h h2)]
theorem marked_not {h : Int} {n k : Nat} (hk : k < n) (hn : n ≤ 24) : marked (places h n) k ((h + k) % 24) = none := by
  unfold marked
  rw [if_neg]
  intro hm
  obtain ⟨i, hi⟩ := List.mem_iff_getElem?.1 hm
  rw [List.getElem?_take] at hi
  split at hi
  · rename_i hik
    rw [places_get h n i (by omega)] at hi
    simp only [Option.some.injEq] at hi
    omega
  · cases hi
end Go.Proofs.Ytjhmfljlclajnac
