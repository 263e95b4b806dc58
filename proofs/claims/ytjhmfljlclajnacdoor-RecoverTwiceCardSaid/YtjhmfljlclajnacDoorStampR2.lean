/- The walks of the reference's GoodMark. -/
import Derived.Test.YtjhmfljlclajnacDoorStampR
namespace Go.Proofs.YtjhmfljlclajnacDoor
open Go.RowKit Wb
set_option linter.unusedVariables false
set_option linter.unusedSimpArgs false
set_option maxRecDepth 100000
set_option maxHeartbeats 8000000

end Go.Proofs.YtjhmfljlclajnacDoor
