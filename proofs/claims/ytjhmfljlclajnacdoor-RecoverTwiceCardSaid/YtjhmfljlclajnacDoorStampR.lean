/- The walks of the reference's rising and GoodMark. -/
import Derived.Test.YtjhmfljlclajnacDoorRing
import Derived.Test.YtjhmfljlclajnacDoorPure
namespace Go.Proofs.YtjhmfljlclajnacDoor
open Go.RowKit Wb
set_option linter.unusedVariables false
set_option linter.unusedSimpArgs false
set_option maxRecDepth 100000
set_option maxHeartbeats 4000000

theorem rlist_getD {xs : List Int} {k : Nat} (hk : k < xs.length) : xs.getD k 0 = xs[k] := by simp [hk]

end Go.Proofs.YtjhmfljlclajnacDoor
