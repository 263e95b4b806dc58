/- The law's helpers of marks. -/
import Derived.Test.YtjhmfljlclajnabRegApp
import Derived.Test.YtjhmfljlclajnabEnc
import Derived.Test.YtjhmfljlclajnabEncR
namespace Go.Proofs.Ytjhmfljlclajnab
open Go.RowKit Wb
set_option linter.unusedVariables false
set_option linter.unusedSimpArgs false
set_option maxRecDepth 100000
set_option maxHeartbeats 4000000

theorem elemTag : Elem Try.prog 35 82 2 16 := Elem.mk' (z := .agg #[.int .i64 0, .bool false]) Try.underlying35 (by kernel_rfl) rfl

end Go.Proofs.Ytjhmfljlclajnab
