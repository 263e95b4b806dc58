/- Part of the proof: Marks. -/
import Derived.Test.YtjhmfljlclajnacGreatDoorURegApp
import Derived.Test.YtjhmfljlclajnacGreatDoorUEnc
import Derived.Test.YtjhmfljlclajnacGreatDoorURing
set_option linter.unusedVariables false
set_option linter.unusedSimpArgs false
set_option maxRecDepth 100000
set_option maxHeartbeats 40000000
namespace Go.Proofs.YtjhmfljlclajnacGreatDoor
open Go.RowKit Wb
theorem elemTag : Elem Tryz.prog 100 140 2 16 := Elem.mk' (z := .agg #[.int .i64 0, .bool false]) Tryz.underlying100 (by kernel_rfl) rfl
end Go.Proofs.YtjhmfljlclajnacGreatDoor
