/- Part of the proof: Marks. -/
import Derived.Test.YtjhmfljlclajnadGreatDoorURegApp
import Derived.Test.YtjhmfljlclajnadGreatDoorUEnc
import Derived.Test.YtjhmfljlclajnadGreatDoorURing
set_option linter.unusedVariables false
set_option linter.unusedSimpArgs false
set_option maxRecDepth 100000
set_option maxHeartbeats 40000000
namespace Go.Proofs.YtjhmfljlclajnadGreatDoor
open Go.RowKit Wb
theorem elemTag : Elem Tryz.prog 86 136 2 16 := Elem.mk' (z := .agg #[.int .i64 0, .bool false]) Tryz.underlying86 (by kernel_rfl) rfl
end Go.Proofs.YtjhmfljlclajnadGreatDoor
