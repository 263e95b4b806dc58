/- What DecodeMark answers, its lists its own. -/
import Derived.Test.YtjhmfljlclajnaaDecR2
import Derived.Test.YtjhmfljlclajnaaDecR3
namespace Go.Proofs.Ytjhmfljlclajnaa
open Go.RowKit Wb
theorem ref_DecodeO (s : ByteArray) (w : World) (hz : s.size ≤ 9223372036854775807) :
    Calls Try.prog 57 #[.string s] w fun e w' => ∃ v, e = .returned (.tuple #[v, .int .i64 (decE s)]) ∧ OMark w.heap.size w' v (decM s) ∧ Below w.heap.size w w' := by
  by_cases h : okS s
  · exact ref_Decode_ok s w h
  · exact ref_Decode_no s w h hz
end Go.Proofs.Ytjhmfljlclajnaa
