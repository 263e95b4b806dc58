/- Part of the proof: Marks. -/
import Derived.Test.YtjhmfljlclajnadGreatDoorURegApp
import Derived.Test.YtjhmfljlclajnadGreatDoorUEnc
import Derived.Test.YtjhmfljlclajnadGreatDoorURing
import Derived.Test.YtjhmfljlclajnadGreatDoorUPure
import Derived.Deep.RegionWith
import Derived.Test.YtjhmfljlclajnadGreatDoorUFit2
import Derived.Test.YtjhmfljlclajnadGreatDoorUPure2
import Derived.Deep.CutBlock
import Derived.Deep.DeepCutAuto
set_option linter.unusedVariables false
set_option linter.unusedSimpArgs false
namespace Go.Proofs.YtjhmfljlclajnadGreatDoor
open Go.RowKit Wb
set_option maxRecDepth 100000
set_option maxHeartbeats 4000000
theorem elemTag : Elem Tryz.prog 86 136 2 16 := Elem.mk' (z := .agg #[.int .i64 0, .bool false]) Tryz.underlying86 (by kernel_rfl) rfl
end Go.Proofs.YtjhmfljlclajnadGreatDoor
