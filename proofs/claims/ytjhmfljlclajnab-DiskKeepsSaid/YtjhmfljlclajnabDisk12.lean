/- The walk of the reference's PutDisk. -/
import Derived.Test.YtjhmfljlclajnabDisk11
namespace Go.Proofs.Ytjhmfljlclajnab
open Go.RowKit Wb
set_option linter.unusedVariables false
set_option linter.unusedSimpArgs false
set_option maxRecDepth 100000
set_option maxHeartbeats 1000000

end Go.Proofs.Ytjhmfljlclajnab
