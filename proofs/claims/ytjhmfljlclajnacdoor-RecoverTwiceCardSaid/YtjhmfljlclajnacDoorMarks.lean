/- The law's helpers of marks. -/
import Derived.Test.YtjhmfljlclajnacDoorRegApp
import Derived.Test.YtjhmfljlclajnacDoorEnc
import Derived.Test.YtjhmfljlclajnacDoorEncR
namespace Go.Proofs.YtjhmfljlclajnacDoor
open Go.RowKit Wb
set_option linter.unusedVariables false
set_option linter.unusedSimpArgs false
set_option maxRecDepth 100000
set_option maxHeartbeats 4000000

theorem elemTag : Elem Tryd.prog 67 103 2 16 := Elem.mk' (z := .agg #[.int .i64 0, .bool false]) Tryd.underlying67 (by kernel_rfl) rfl

end Go.Proofs.YtjhmfljlclajnacDoor
