/- The world of the witness, where the program's own step 'flush' stands as its text lays it. -/
import Derived.Test.YtjhmfljlclajnacGreatDoorLift
namespace Go.Proofs.YtjhmfljlclajnacGreatDoor
open Go.ChangeShapes Go.WideShapes Go.ChangeAt Go.RowKit Wb
noncomputable def laidWorld (os : Os) : World :=
  { World.holding Tryz.prog os ⟨#[], #[], []⟩ with heap := (World.holding Tryz.prog os ⟨#[], #[], []⟩).heap.modify 0 fun
      | .cells _ t frozen => .cells #[.int .i64 2, .int .i64 0, .string ⟨#[]⟩] t frozen
      | o => o }
end Go.Proofs.YtjhmfljlclajnacGreatDoor
