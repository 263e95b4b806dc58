/- The walks of FitText and byteOf; what a text as a block is. -/
import Derived.Test.YtjhmfljlclajnabDoorRows
import Derived.Test.YtjhmfljlclajnabDoorFitP
import Derived.Test.YtjhmfljlclajnabDoorBytes
namespace Go.Proofs.YtjhmfljlclajnabDoor
open Go.RowKit Wb
set_option linter.unusedVariables false
set_option linter.unusedSimpArgs false
set_option maxRecDepth 100000
set_option maxHeartbeats 1000000

theorem ref_FitText (s : ByteArray) (w : World) (hs : s.size ≤ 9223372036854775807) :
    Calls Tryd.prog 78 #[.string s] w fun e w' => e = .returned (.string (fit s)) ∧ Below w.heap.size w w' := by
  have hfit : fit s = str (fitL s.data.toList) := rfl
  generalize fit s = ft at *
  replace hfit := hid hfit
  go_enter Tryd.func78, Tryd.ntmps78
  go_wp2
  have hlen : s.data.toList.length = s.size := by rw [Array.length_toList]; rfl
  replace hlen := hid hlen
  go_loopw [4] (fun i wr => ∃ k : Nat, k ≤ s.size ∧ k ≤ 32 ∧ i = .int .i64 k ∧ Blk wr w.heap.size ((fitPart s.data.toList k).flatMap byteC).toArray 139 ∧ Below w.heap.size w wr) (fun i _ => 32 - (intOf i).toNat)
  case atStart => exact ⟨0, Nat.zero_le _, Nat.zero_le _, rfl, by rw [fitPart_zero]; exact Blk.new w _ _, by repeat (first | exact Below.refl _ _ | with_reducible assumption | (refine allocB ?_ (by first | omega | (simp; done) | (simp; omega)) _) | (refine Below.setCell ?_ (by first | omega | (simp; done) | (simp; omega)) _) | refine Below.drew ?_ | (refine Below.trans ?_ (Below.mono (by with_reducible assumption) (by first | omega | (simp; done) | (simp; omega)))))⟩
  case round =>
    obtain ⟨k, hk, hk2, rfl, kb, hnx⟩ := hrel
    by_cases hlt : k < s.size ∧ k < 32
    · obtain ⟨hl1, hl2⟩ := hlt
      have hl3 : k < s.data.toList.length := by rw [hlen.out]; exact hl1
      have hget : ∀ j : Nat, (((fitPart s.data.toList k).flatMap byteC).toArray)[j]? = ((fitPart s.data.toList k)[j]?).map fun (b : UInt8) => Value.int .u8 b.toNat := by
        intro j
        rw [flat_bytes]
        simp [Function.comp]
        rfl
      have hc : wr.cell? ⟨w.heap.size, k, none⟩ = some (Value.int .u8 ((fitPart s.data.toList k)[k]'(by rw [fitPart_len (by omega) hk2]; exact hl2)).toNat) := by
        rw [kb.cell k, hget k]
        simp [fitPart_len (s := s.data.toList) (k := k) (by omega) hk2, hl2]
      have hf := kb.free k
      have hset := fitPart_set hl3 hl2
      have lt0 := kb.lt
      generalize ((fitPart s.data.toList k)[k]'(by rw [fitPart_len (by omega) hk2]; exact hl2)).toNat = old at *
      replace hget := hid hget
      replace hset := hid hset
      go_wp2
      go_roundw
      case rel =>
        refine ⟨k + 1, by omega, by omega, by go_num, ?_, hnx.setCell (Nat.le_refl _) _⟩
        have hbb := kb.set k (.int .u8 s[k].toNat)
        have he : (((fitPart s.data.toList k).flatMap byteC).toArray).setIfInBounds k (.int .u8 s[k].toNat) = ((fitPart s.data.toList (k + 1)).flatMap byteC).toArray := by
          rw [← hset.out, flat_bytes, flat_bytes, List.map_map, List.map_map, List.map_set]
          simp [Function.comp]
          rfl
        rw [he] at hbb
        exact hbb
      case measure => simp [intOf]; omega
    · have hr : RL byteC wr (.slice (some ⟨w.heap.size, 0, none⟩) 32 32) (fitL s.data.toList) := by
        rw [← fitPart_full (by rw [hlen.out]; exact hk) hk2 (by rw [hlen.out]; exact hlt)]
        have hl := fitPart_len (s := s.data.toList) (k := k) (by rw [hlen.out]; exact hk) hk2
        refine ⟨_, 32, by rw [hl], by rw [hl]; exact Nat.le_refl _, by unfold maxLen; omega, .inr ⟨w.heap.size, 0, rfl, fun j u hj => ?_⟩⟩
        rw [Nat.zero_add, kb.cell j]
        simpa using hj
      have hcv := run_toString (P := Tryd.prog) (src := 120) (dst := 9) (fitL s.data.toList) Tryd.underlying120 Tryd.underlying5 Tryd.underlying9 hr
      rw [← hfit.out] at hcv
      clear hr
      go_wp2
      all_goals
        go_ret
        exact ⟨rfl, hnx⟩
end Go.Proofs.YtjhmfljlclajnabDoor
