/- Part of the proof: Marks. -/
import Derived.Test.YtjhmfljlclajnabGreatDoorURegApp
import Derived.Test.YtjhmfljlclajnabGreatDoorUEnc
import Derived.Test.YtjhmfljlclajnabGreatDoorURing
import Derived.Test.YtjhmfljlclajnabGreatDoorUPure
import Derived.Deep.RegionWith
import Derived.Test.YtjhmfljlclajnabGreatDoorUFit2
import Derived.Test.YtjhmfljlclajnabGreatDoorUPure2
import Derived.Deep.CutBlock
import Derived.Deep.DeepCutAuto
set_option linter.unusedVariables false
set_option linter.unusedSimpArgs false
namespace Go.Proofs.YtjhmfljlclajnabGreatDoor
open Go.RowKit Wb
set_option maxRecDepth 100000
set_option maxHeartbeats 4000000
theorem elemTag : Elem Tryz.prog 66 83 2 16 := Elem.mk' (z := .agg #[.int .i64 0, .bool false]) Tryz.underlying66 (by kernel_rfl) rfl
end Go.Proofs.YtjhmfljlclajnabGreatDoor
