/- The walk of the reference's EncodeMark. -/
import Derived.Test.YtjhmfljlclajnacDoorStampR3
import Derived.Test.YtjhmfljlclajnacDoorFit2
import Derived.Test.YtjhmfljlclajnacDoorPure2
import Derived.Deep.CutBlock
import Derived.Deep.DeepCutAuto
namespace Go.Proofs.YtjhmfljlclajnacDoor
open Go.RowKit Wb
set_option linter.unusedVariables false
set_option linter.unusedSimpArgs false
set_option maxRecDepth 100000
set_option maxHeartbeats 4000000

theorem str_app (x y : List UInt8) : str x ++ str y = str (x ++ y) := by
  apply ba_ext; simp [str]
theorem byte_mod (n : Int) : byte (n % 256) = byte n := by unfold byte; rw [Int.emod_emod_of_dvd _ (by decide)]

end Go.Proofs.YtjhmfljlclajnacDoor
