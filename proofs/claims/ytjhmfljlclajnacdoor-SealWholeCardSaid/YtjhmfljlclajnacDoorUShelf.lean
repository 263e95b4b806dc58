/- Part of the proof: Shelf. -/
import Derived.Shelf.Strings.Builder1
import Derived.Shelf.Strings.Builder2
import Derived.Shelf.Small.Wraps
import Derived.Shelf.Strings.BuilderF
import Derived.Shelf.Strings.BuilderK
import Derived.Shelf.Strings.Builder2Cap
import Derived.Shelf.Strings.Prefix
import Derived.Shelf.Bits.Mul64
import Derived.Shelf.Strings.Repeat
import Derived.Ground.Names2Prog
import Derived.Shelf.Slices.Clone
import Derived.Shelf.Slices.SearchI
import Derived.Ground.SlgnProg
import Derived.Shelf.SlicesE.Clone
import Derived.Test.YtjhmfljlclajnacDoorProg
set_option linter.unusedVariables false
set_option linter.unusedSimpArgs false
namespace Go.Proofs
open Go.Shelf
def Tryd.lays99_ren : Go.Shelf.Ren := ⟨fun | 99 => 56 | 206 => 62 | n => n, fun | 9 => 9 | 4 => 4 | 3 => 3 | n => n, fun | n => n⟩
theorem Tryd.lays99 : Go.Proofs.Lays.n99 Tryd.prog Tryd.lays99_ren := {
 mixed := by kernel_rfl
 f99 := Tryd.func56.trans (congrArg some (by kernel_rfl))
 f206 := Tryd.func62.trans (congrArg some (by kernel_rfl))
 t3 := Tryd.underlying3
 a3 := Tryd.isAgg3
 z3 := Tryd.sizeOf3
 v3 := Tryd.zeroValue3
 t4 := Tryd.underlying4
 a4 := Tryd.isAgg4
 z4 := Tryd.sizeOf4
 v4 := Tryd.zeroValue4
 t9 := Tryd.underlying9
 a9 := Tryd.isAgg9
 z9 := Tryd.sizeOf9
 v9 := Tryd.zeroValue9 }
open Go.RowKit Go.Lib in
theorem Tryd.strings_HasPrefix (s p : ByteArray) (w : World) :
    Calls Tryd.prog 56 #[.string s, .string p] w fun e w' => e = .returned (.bool (Lib.hasPrefix s.data.toList p.data.toList)) ∧ w' = w := Any.strings_HasPrefix Tryd.lays99 s p w
def Tryd.lays105_ren : Go.Shelf.Ren := ⟨fun | 105 => 59 | 212 => 63 | 99 => 56 | 165 => 64 | 166 => 65 | 170 => 66 | 169 => 67 | 263 => 71 | 264 => 72 | 206 => 62 | 240 => 73 | 241 => 74 | 276 => 76 | 277 => 77 | n => n, fun | 9 => 9 | 3 => 3 | 4 => 4 | 20 => 20 | 0 => 0 | 46 => 107 | 109 => 127 | 5 => 5 | 72 => 131 | 76 => 135 | 51 => 141 | 146 => 142 | 53 => 144 | 148 => 145 | 70 => 129 | 37 => 111 | 75 => 134 | 127 => 147 | 164 => 148 | 80 => 138 | n => n, fun | n => n⟩
theorem Tryd.lays105 : Go.Proofs.Lays.n105 Tryd.prog Tryd.lays105_ren := {
 mixed := by kernel_rfl
 f99 := Tryd.func56.trans (congrArg some (by kernel_rfl))
 f105 := Tryd.func59.trans (congrArg some (by kernel_rfl))
 f165 := Tryd.func64.trans (congrArg some (by kernel_rfl))
 f166 := Tryd.func65.trans (congrArg some (by kernel_rfl))
 f169 := Tryd.func67.trans (congrArg some (by kernel_rfl))
 f170 := Tryd.func66.trans (congrArg some (by kernel_rfl))
 f206 := Tryd.func62.trans (congrArg some (by kernel_rfl))
 f212 := Tryd.func63.trans (congrArg some (by kernel_rfl))
 f240 := Tryd.func73.trans (congrArg some (by kernel_rfl))
 f241 := Tryd.func74.trans (congrArg some (by kernel_rfl))
 f263 := Tryd.func71.trans (congrArg some (by kernel_rfl))
 f264 := Tryd.func72.trans (congrArg some (by kernel_rfl))
 f276 := Tryd.func76.trans (congrArg some (by kernel_rfl))
 f277 := Tryd.func77.trans (congrArg some (by kernel_rfl))
 t0 := Tryd.underlying0
 a0 := Tryd.isAgg0
 z0 := Tryd.sizeOf0
 v0 := Tryd.zeroValue0
 t3 := Tryd.underlying3
 a3 := Tryd.isAgg3
 z3 := Tryd.sizeOf3
 v3 := Tryd.zeroValue3
 t4 := Tryd.underlying4
 a4 := Tryd.isAgg4
 z4 := Tryd.sizeOf4
 v4 := Tryd.zeroValue4
 t5 := Tryd.underlying5
 a5 := Tryd.isAgg5
 z5 := Tryd.sizeOf5
 v5 := Tryd.zeroValue5
 t9 := Tryd.underlying9
 a9 := Tryd.isAgg9
 z9 := Tryd.sizeOf9
 v9 := Tryd.zeroValue9
 t20 := Tryd.underlying20
 a20 := Tryd.isAgg20
 z20 := Tryd.sizeOf20
 v20 := Tryd.zeroValue20
 t37 := Tryd.underlying111
 a37 := Tryd.isAgg111
 z37 := Tryd.sizeOf111
 v37 := Tryd.zeroValue111
 t46 := Tryd.underlying107
 a46 := Tryd.isAgg107
 z46 := Tryd.sizeOf107
 v46 := Tryd.zeroValue107
 t51 := Tryd.underlying141
 a51 := Tryd.isAgg141
 z51 := Tryd.sizeOf141
 v51 := Tryd.zeroValue141
 t53 := Tryd.underlying144
 a53 := Tryd.isAgg144
 z53 := Tryd.sizeOf144
 v53 := Tryd.zeroValue144
 t70 := Tryd.underlying129
 a70 := Tryd.isAgg129
 z70 := Tryd.sizeOf129
 v70 := Tryd.zeroValue129
 t72 := Tryd.underlying131
 a72 := Tryd.isAgg131
 z72 := Tryd.sizeOf131
 v72 := Tryd.zeroValue131
 t75 := Tryd.underlying134
 a75 := Tryd.isAgg134
 z75 := Tryd.sizeOf134
 v75 := Tryd.zeroValue134
 t76 := Tryd.underlying135
 a76 := Tryd.isAgg135
 z76 := Tryd.sizeOf135
 v76 := Tryd.zeroValue135
 t109 := Tryd.underlying127
 a109 := Tryd.isAgg127
 z109 := Tryd.sizeOf127
 v109 := Tryd.zeroValue127
 t127 := Tryd.underlying147
 a127 := Tryd.isAgg147
 z127 := Tryd.sizeOf147
 v127 := Tryd.zeroValue147
 t146 := Tryd.underlying142
 a146 := Tryd.isAgg142
 z146 := Tryd.sizeOf142
 v146 := Tryd.zeroValue142
 t148 := Tryd.underlying145
 a148 := Tryd.isAgg145
 z148 := Tryd.sizeOf145
 v148 := Tryd.zeroValue145
 t164 := Tryd.underlying148
 a164 := Tryd.isAgg148
 z164 := Tryd.sizeOf148
 v164 := Tryd.zeroValue148 }
theorem Tryd.Builder_Extra_105 : Builder.Extra Tryd.prog Tryd.lays105_ren := {
 sizeBuilder := by kernel_rfl
 liesBuilder := by kernel_rfl
 t5 := Tryd.underlying5
 a5 := Tryd.isAgg5
 z5 := Tryd.sizeOf5
 v5 := Tryd.zeroValue5
 infoByte := by kernel_rfl
 cellsByte := by kernel_rfl
 sizeByte := by kernel_rfl
 neB5 := by decide }
open Go.RowKit Go.Lib in
theorem Tryd.strings_Repeat (s : ByteArray) (c : Nat) (w : World) (hc : c ≤ 9223372036854775807) (hlen : s.size * c ≤ 140737488355328) :
    Calls Tryd.prog 59 #[.string s, .int .i64 c] w fun e w' => e = .returned (.string ⟨(Lib.repeatL s.data.toList c).toArray⟩) ∧ Below w.heap.size w w' := Any.strings_Repeat Tryd.lays105 Tryd.Builder_Extra_105 s c w hc hlen
end Go.Proofs
