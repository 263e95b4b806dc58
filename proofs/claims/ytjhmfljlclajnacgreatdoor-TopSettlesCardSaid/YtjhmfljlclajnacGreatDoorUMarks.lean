/- Part of the proof: Marks. -/
import Derived.Test.YtjhmfljlclajnacGreatDoorURegApp
import Derived.Test.YtjhmfljlclajnacGreatDoorUEnc
import Derived.Test.YtjhmfljlclajnacGreatDoorURing
import Derived.Test.YtjhmfljlclajnacGreatDoorUPure
import Derived.Deep.RegionWith
import Derived.Test.YtjhmfljlclajnacGreatDoorUFit2
import Derived.Test.YtjhmfljlclajnacGreatDoorUPure2
import Derived.Deep.CutBlock
import Derived.Deep.DeepCutAuto
set_option linter.unusedVariables false
set_option linter.unusedSimpArgs false
namespace Go.Proofs.YtjhmfljlclajnacGreatDoor
open Go.RowKit Wb
set_option maxRecDepth 100000
set_option maxHeartbeats 4000000
theorem elemTag : Elem Tryz.prog 100 140 2 16 := Elem.mk' (z := .agg #[.int .i64 0, .bool false]) Tryz.underlying100 (by kernel_rfl) rfl
end Go.Proofs.YtjhmfljlclajnacGreatDoor
