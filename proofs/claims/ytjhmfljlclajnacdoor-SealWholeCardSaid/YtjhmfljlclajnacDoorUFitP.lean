/- Part of the proof: FitP. -/
import Derived.Test.YtjhmfljlclajnacDoorUBytes
set_option linter.unusedVariables false
set_option linter.unusedSimpArgs false
namespace Wb
def fitL (s : List UInt8) : List UInt8 := s.take 32 ++ List.replicate (32 - s.length) 0
theorem fitL_len (s : List UInt8) : (fitL s).length = 32 := by rw [fitL, List.length_append, List.length_take, List.length_replicate]; omega
def fit (s : ByteArray) : ByteArray := str (fitL s.data.toList)
end Wb
