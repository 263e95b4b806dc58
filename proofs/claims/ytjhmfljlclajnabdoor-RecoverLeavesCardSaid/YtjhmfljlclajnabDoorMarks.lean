/- The law's helpers of marks. -/
import Derived.Test.YtjhmfljlclajnabDoorRegApp
import Derived.Test.YtjhmfljlclajnabDoorEnc
import Derived.Test.YtjhmfljlclajnabDoorEncR
namespace Go.Proofs.YtjhmfljlclajnabDoor
open Go.RowKit Wb
set_option linter.unusedVariables false
set_option linter.unusedSimpArgs false
set_option maxRecDepth 100000
set_option maxHeartbeats 4000000

theorem elemTag : Elem Tryd.prog 79 92 2 16 := Elem.mk' (z := .agg #[.int .i64 0, .bool false]) Tryd.underlying79 (by kernel_rfl) rfl

end Go.Proofs.YtjhmfljlclajnabDoor
