/- The walk of stamp.Decode. -/
import Derived.Test.YtjhmfljlclajnacDoorDec2a
import Derived.Test.YtjhmfljlclajnacDoorDec2b
import Derived.Test.YtjhmfljlclajnacDoorDec2c
import Derived.Test.YtjhmfljlclajnacDoorDec2d
namespace Go.Proofs.YtjhmfljlclajnacDoor
open Go.RowKit Wb
set_option linter.unusedVariables false
set_option linter.unusedSimpArgs false
set_option maxRecDepth 100000
set_option maxHeartbeats 16000000

theorem stamp_Decode_ok (s : ByteArray) (w : World) (hs : okS s) :
    Calls Tryd.prog 22 #[.string s] w fun e w' => ∃ v, e = .returned (.tuple #[v, .int .i64 (decE s)]) ∧ OMark w.heap.size w' v (decM s) ∧ Below w.heap.size w w' := by
  by_cases k1 : nb s 4 = 1
  · exact stamp_Decode_1 s w hs k1
  by_cases k2 : nb s 4 = 2
  · exact stamp_Decode_2 s w hs k2
  by_cases k3 : nb s 4 = 3
  · exact stamp_Decode_3 s w hs k3
  exact stamp_Decode_4 s w hs ⟨k1, k2, k3⟩
end Go.Proofs.YtjhmfljlclajnacDoor
