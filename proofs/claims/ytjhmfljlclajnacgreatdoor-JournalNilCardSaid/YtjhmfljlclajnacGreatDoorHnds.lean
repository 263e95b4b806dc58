/- Three handles are what they are. -/
import Derived.Test.YtjhmfljlclajnacGreatDoorBase
import Derived.Test.YtjhmfljlclajnacGreatDoorChecked
import Derived.ChangeKeysEq
namespace Go.Proofs.YtjhmfljlclajnacGreatDoor
open Go.RowKit Wb
set_option linter.unusedSimpArgs false
set_option maxRecDepth 100000
theorem run_neq_hnds (w : World) (o0 o1 o2 : Bool) (l0 l1 l2 : Int) :
    (binOp .neq 38 (.agg #[.bool o0, .int .i64 l0, .bool o1, .int .i64 l1, .bool o2, .int .i64 l2]) (.agg #[.bool o0, .int .i64 l0, .bool o1, .int .i64 l1, .bool o2, .int .i64 l2])).run Tryz.prog w = .ok (.bool false) w := by
  obtain ⟨i, hi, _⟩ := info_parts (show (Tryz.prog.info? 37).map (fun i => (i.zero, i.size, i.bytes)) = some (some (.agg #[.bool false, .int .i64 0]), 2, 16) by kernel_rfl)
  have hc : Tryz.prog.cellsOf 37 = 2 := by kernel_rfl
  rw [run_neq_struct, run_equalIn_array w 9999 _ _ Tryz.underlying38 hi, hc, show List.range 3 = [0, 1, 2] from rfl]
  simp [Op.eqItems, go_sem]
end Go.Proofs.YtjhmfljlclajnacGreatDoor
