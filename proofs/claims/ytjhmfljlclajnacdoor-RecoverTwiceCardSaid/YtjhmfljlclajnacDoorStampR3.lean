/- The walks of the reference's GoodMark, the ways behind its loop. -/
import Derived.Test.YtjhmfljlclajnacDoorStampR2
import Derived.Deep.RegionWith
namespace Go.Proofs.YtjhmfljlclajnacDoor
open Go.RowKit Wb
set_option linter.unusedVariables false
set_option linter.unusedSimpArgs false
set_option maxRecDepth 100000
set_option maxHeartbeats 8000000

theorem take_map {tags : List Tag} {k : Nat} (hk : k < tags.length) : (tags.map (·.block)).take (k + 1) = (tags.map (·.block)).take k ++ [tags[k].block] := by
  rw [List.take_succ_eq_append_getElem (by simpa using hk)]
  simp
theorem take_len {tags : List Tag} {k : Nat} (hk : k ≤ tags.length) : ((tags.map (·.block)).take k).length = k := by simp; omega

end Go.Proofs.YtjhmfljlclajnacDoor
