/- The law on marks. -/
import Derived.Test.YtjhmfljlclajnabMarks
import Derived.Test.YtjhmfljlclajnabStampR3
import Derived.Deep.RegionWith
namespace Go.Proofs.Ytjhmfljlclajnab
open Go.RowKit Wb
set_option linter.unusedVariables false
set_option linter.unusedSimpArgs false
set_option maxRecDepth 100000
set_option maxHeartbeats 4000000

def mk0 : Mrk := ⟨4, 258, 0, [], []⟩
theorem mk0_E : markE mk0 = 0 := by decide
theorem mk0_S : markS mk0 = ⟨#[87, 66, 75, 49, 4, 0, 0, 1, 2, 0, 0, 0, 0, 0, 0, 0, 0, 0, 0, 0, 0, 0, 0, 0, 0, 0, 0, 0, 0, 0, 0, 0]⟩ := by
  unfold markS; rw [if_pos mk0_E]; rfl

end Go.Proofs.Ytjhmfljlclajnab
