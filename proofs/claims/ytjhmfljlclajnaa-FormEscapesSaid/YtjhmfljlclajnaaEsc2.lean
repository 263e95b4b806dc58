/- The law on escapes. -/
import Derived.Test.YtjhmfljlclajnaaEsc
import Derived.Test.YtjhmfljlclajnaaMarks2
namespace Go.Proofs.Ytjhmfljlclajnaa
open Go.RowKit Wb
set_option linter.unusedVariables false
set_option linter.unusedSimpArgs false
set_option maxRecDepth 100000
set_option maxHeartbeats 4000000
theorem law_FormEscapes (s : ByteArray) (e : Bool) (w : World) (hs : s.size ≤ 9223372036854775807) :
    Calls Try.prog 8 #[.string s, .bool e] w fun r w' => r = .returned (.bool true) ∧ Below w.heap.size w w' := by
  have h1 := fun w => stamp_Escape s w hs
  have h2 := fun w => ref_EscapeBlock s w hs
  have h3 := fun w => stamp_Unescape s e w hs
  have h4 := fun w => ref_UnescapeBlock s e w hs
  have h5 := fun w => law_marks w
  generalize escS s = es at *
  generalize isEsc s = ie at *
  generalize unescS s e = us at *
  replace h1 := hid h1; replace h2 := hid h2; replace h3 := hid h3; replace h4 := hid h4; replace h5 := hid h5
  go_enter Try.func8, Try.ntmps8
  go_wp2_with (first
    | (go_at_call 35; refine (h1.out _).mono ?_; rintro r w1 ⟨rfl, hb1⟩)
    | (go_at_call 36; refine (h2.out _).mono ?_; rintro r w2 ⟨rfl, hb2⟩)
    | (go_at_call 37; refine (h3.out _).mono ?_; rintro r w3 ⟨rfl, hb3⟩)
    | (go_at_call 38; refine (h4.out _).mono ?_; rintro r w4 ⟨rfl, hb4⟩)
    | (go_at_call 34; refine (h5.out _).mono ?_; rintro r w5 ⟨rfl, hb5⟩; have hx := hb1.trans (hb2.mono hb1.size); have hx := hx.trans (hb3.mono hx.size); have hx := hx.trans (hb4.mono hx.size); have hx := hx.trans (hb5.mono hx.size)))
  go_ret
  exact ⟨rfl, hx⟩
end Go.Proofs.Ytjhmfljlclajnaa
