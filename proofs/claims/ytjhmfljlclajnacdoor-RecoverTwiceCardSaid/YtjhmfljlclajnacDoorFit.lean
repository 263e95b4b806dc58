/- The walks of FitText and byteOf; what a text as a block is. -/
import Derived.Test.YtjhmfljlclajnacDoorRows
import Derived.Test.YtjhmfljlclajnacDoorFitP
import Derived.Test.YtjhmfljlclajnacDoorBytes
namespace Go.Proofs.YtjhmfljlclajnacDoor
open Go.RowKit Wb
set_option linter.unusedVariables false
set_option linter.unusedSimpArgs false
set_option maxRecDepth 100000
set_option maxHeartbeats 1000000

end Go.Proofs.YtjhmfljlclajnacDoor
