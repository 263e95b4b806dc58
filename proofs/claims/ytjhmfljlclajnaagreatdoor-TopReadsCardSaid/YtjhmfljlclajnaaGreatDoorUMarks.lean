/- Part of the proof: Marks. -/
import Derived.Test.YtjhmfljlclajnaaGreatDoorURegApp
import Derived.Test.YtjhmfljlclajnaaGreatDoorUEnc
import Derived.Test.YtjhmfljlclajnaaGreatDoorURing
import Derived.Test.YtjhmfljlclajnaaGreatDoorUPure
import Derived.Deep.RegionWith
import Derived.Test.YtjhmfljlclajnaaGreatDoorUFit2
import Derived.Test.YtjhmfljlclajnaaGreatDoorUPure2
import Derived.Deep.CutBlock
import Derived.Deep.DeepCutAuto
set_option linter.unusedVariables false
set_option linter.unusedSimpArgs false
namespace Go.Proofs.YtjhmfljlclajnaaGreatDoor
open Go.RowKit Wb
set_option maxRecDepth 100000
set_option maxHeartbeats 4000000
theorem elemTag : Elem Tryz.prog 71 116 2 16 := Elem.mk' (z := .agg #[.int .i64 0, .bool false]) Tryz.underlying71 (by kernel_rfl) rfl
end Go.Proofs.YtjhmfljlclajnaaGreatDoor
