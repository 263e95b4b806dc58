/- Part of the proof: Fit2. -/
import Derived.Test.YtjhmfljlclajnacDoorRows
import Derived.Test.YtjhmfljlclajnacDoorUFitP
import Derived.Test.YtjhmfljlclajnacDoorUBytes
import Derived.Test.YtjhmfljlclajnacDoorUShelf
set_option linter.unusedVariables false
set_option linter.unusedSimpArgs false
namespace Go.Proofs.YtjhmfljlclajnacDoor
open Go.RowKit Wb
set_option maxRecDepth 100000
set_option maxHeartbeats 1000000
theorem rep_zero (c : Nat) : Lib.repeatL [0] c = List.replicate c (0 : UInt8) := by
 induction c with
 | zero => rfl
 | succ c ih => rw [Lib.repeatL, ih, List.replicate_succ]; rfl
theorem ba_ext {x y : ByteArray} (h : x.data.toList = y.data.toList) : x = y := by
 rw [← str_toList x, h, str_toList y]
theorem disk_Fit (s : ByteArray) (w : World) (hs : s.size ≤ 9223372036854775807) :
    Calls Tryd.prog 45 #[.string s] w fun e w' => e = .returned (.string (fit s)) ∧ Below w.heap.size w w' := by
 by_cases hlt : s.size < 32
 ·obtain ⟨c, hc⟩ : ∃ c : Nat, c + s.size = 32 := ⟨32 - s.size, by omega⟩
  have hR := fun w => Tryd.strings_Repeat ⟨#[0]⟩ c w (by omega) (by show 1 * c ≤ _; omega)
  have hfit : fit s = s ++ ⟨(Lib.repeatL [0] c).toArray⟩ := by
   apply ba_ext
   have hl : s.data.toList.length = s.size := by rw [Array.length_toList]; rfl
   have e : 32 - s.data.toList.length = c := by omega
   rw [rep_zero]
   simp only [fit, str, fitL, e, ByteArray.data_append, Array.toList_append]
   rw [List.take_of_length_le (by omega)]
  have hrl : (Lib.repeatL [0] c).length ≤ 32 := by rw [rep_zero, List.length_replicate]; omega
  have e1 : (32 - (s.size : Int)) = (c : Int) := by omega
  replace hfit := hid hfit
  replace hR := hid hR
  generalize fit s = ft at *
  go_enter Tryd.func45, Tryd.ntmps45
  go_wp2_with (go_at_call 59; refine (hR.out _).mono ?_; rintro e w1 ⟨rfl, hb1⟩)
  go_ret
  exact ⟨ret_s hfit.out.symm, hb1⟩
 ·have hfit : fit s = s.extract 0 32 := by
    apply ba_ext
    have hl : s.data.toList.length = s.size := by rw [Array.length_toList]; rfl
    have e : 32 - s.data.toList.length = 0 := by omega
    simp only [fit, str, fitL, e, List.replicate_zero, List.append_nil]
    rw [Lib.extract_data]
    simp
  rw [hfit]
  go_enter Tryd.func45, Tryd.ntmps45
  go_wp2
  go_ret
  exact ⟨rfl, by exact Zlo⟩
end Go.Proofs.YtjhmfljlclajnacDoor
