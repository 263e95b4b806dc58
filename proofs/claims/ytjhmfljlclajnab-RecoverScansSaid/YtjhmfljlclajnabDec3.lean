/- The walk of stamp.Decode at whatever is no block of a mark. -/
import Derived.Test.YtjhmfljlclajnabEsc
import Derived.Test.YtjhmfljlclajnabMarks
import Derived.Test.YtjhmfljlclajnabDecP2
import Derived.Test.YtjhmfljlclajnabDecA
import Derived.Test.YtjhmfljlclajnabRegCall
namespace Go.Proofs.Ytjhmfljlclajnab
open Go.RowKit Wb
set_option linter.unusedVariables false
set_option linter.unusedSimpArgs false
set_option maxRecDepth 100000
set_option maxHeartbeats 1000000
theorem zero_reads (w : World) : RMark w (.agg #[.int .i64 0, .int .i64 0, .int .i64 0, .slice none 0 0, .slice none 0 0]) zeroM := ⟨_, _, rfl, RL.nil _ _, RL.nil _ _, Nat.zero_le _, Nat.zero_le _⟩

theorem stamp_Decode_no (s : ByteArray) (w : World) (hs : ¬ okS s) (hz : s.size ≤ 9223372036854775807) :
    Calls Try.prog 16 #[.string s] w fun e w' => ∃ v, e = .returned (.tuple #[v, .int .i64 (decE s)]) ∧ OMark w.heap.size w' v (decM s) ∧ Below w.heap.size w w' := by
  have hd : ¬ decOk s := fun h => hs h.1
  obtain ⟨dM, dE⟩ := dec_no hd
  rw [dM, dE]
  have hP := hid (fun w' => OMark.plain w.heap.size w' 0 0 0)
  by_cases h1 : s.size = 32
  · have e1 : ((s.size : Int) != 32) = false := by rw [h1]; rfl
    have h2 : isEsc s = false := decide_eq_false fun hh => hs ⟨h1, hh⟩
    have e2 := take_isEsc s
    rw [h2] at e2
    have h4 : 4 ≤ s.size := by omega
    clear hs hd dM dE h2 h1
    go_enter Try.func16, Try.ntmps16
    go_wp2
    refine bodyPost_ret (v := .tuple #[.agg #[.int .i64 0, .int .i64 0, .int .i64 0, .slice none 0 0, .slice none 0 0], .int .i64 1]) (by simp [results, Try.results16, go_sem]) rfl ⟨_, rfl, hP.out _, ?_⟩
    exact bal (b0 w) _
  · have e1 : ((s.size : Int) != 32) = true := bne_iff_ne.2 (by omega)
    clear hs hd dM dE h1
    go_enter Try.func16, Try.ntmps16
    go_wp2
    refine bodyPost_ret (v := .tuple #[.agg #[.int .i64 0, .int .i64 0, .int .i64 0, .slice none 0 0, .slice none 0 0], .int .i64 1]) (by simp [results, Try.results16, go_sem]) rfl ⟨_, rfl, hP.out _, ?_⟩
    exact bal (b0 w) _
end Go.Proofs.Ytjhmfljlclajnab
