/- Part of the proof: Marks. -/
import Derived.Test.YtjhmfljlclajnacDoorURegApp
import Derived.Test.YtjhmfljlclajnacDoorUEnc
import Derived.Test.YtjhmfljlclajnacDoorURing
import Derived.Test.YtjhmfljlclajnacDoorUPure
import Derived.Deep.RegionWith
import Derived.Test.YtjhmfljlclajnacDoorUFit2
import Derived.Test.YtjhmfljlclajnacDoorUPure2
import Derived.Deep.CutBlock
import Derived.Deep.DeepCutAuto
set_option linter.unusedVariables false
set_option linter.unusedSimpArgs false
namespace Go.Proofs.YtjhmfljlclajnacDoor
open Go.RowKit Wb
set_option maxRecDepth 100000
set_option maxHeartbeats 4000000
theorem elemTag : Elem Tryd.prog 67 103 2 16 := Elem.mk' (z := .agg #[.int .i64 0, .bool false]) Tryd.underlying67 (by kernel_rfl) rfl
end Go.Proofs.YtjhmfljlclajnacDoor
