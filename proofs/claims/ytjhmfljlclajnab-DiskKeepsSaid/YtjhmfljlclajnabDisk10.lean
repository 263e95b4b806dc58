/- The walk of the reference's FlushDisk. -/
import Derived.Test.YtjhmfljlclajnabDisk9
namespace Go.Proofs.Ytjhmfljlclajnab
open Go.RowKit Wb
set_option linter.unusedVariables false
set_option linter.unusedSimpArgs false
set_option maxRecDepth 100000
set_option maxHeartbeats 1000000

theorem after_end (s : ByteArray) (n : Int) (ws : List Wr) : ∃ q, (afterL s n ws).length = q + 1 ∧ (afterL s n ws)[q]? = some (lastT s n ws) := by
  have h := after_last s n ws
  rw [List.getLast?_eq_getElem?] at h
  have hl := (List.getElem?_eq_some_iff.1 h).1
  exact ⟨(afterL s n ws).length - 1, by omega, h⟩

end Go.Proofs.Ytjhmfljlclajnab
