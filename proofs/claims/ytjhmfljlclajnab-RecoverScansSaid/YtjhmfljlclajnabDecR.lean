/- The walks of noughts, of DecodeMark's bad way, and of DecodeMark at whatever is no block of a mark. -/
import Derived.Test.YtjhmfljlclajnabDec3
namespace Go.Proofs.Ytjhmfljlclajnab
open Go.RowKit Wb
set_option linter.unusedVariables false
set_option linter.unusedSimpArgs false
set_option maxRecDepth 100000
set_option maxHeartbeats 1000000
def noughts (s : ByteArray) (n : Nat) : Bool := decide (∀ i, i < s.size → n ≤ i → bt s i = 0)
theorem noughts_no {s : ByteArray} {n i : Nat} (h : i < s.size) (h2 : n ≤ i) (h3 : bt s i ≠ 0) : noughts s n = false := decide_eq_false fun hh => h3 (hh i h h2)
theorem noughts_yes {s : ByteArray} {n : Nat} (h : ∀ i, i < s.size → n ≤ i → bt s i = 0) : noughts s n = true := decide_eq_true h

theorem ref_noughts (s : ByteArray) (n : Nat) (w : World) (hz : s.size ≤ 9223372036854775807) (hn : n ≤ s.size) :
    Calls Try.prog 83 #[.string s, .int .i64 n] w fun e w' => e = .returned (.bool (noughts s n)) ∧ w = w' := by
  have hbt := fun i (h : i < s.size) => bt_get s i h
  go_enter Try.func83, Try.ntmps83
  go_wp2
  go_loop [5] (fun i => ∃ k : Nat, n ≤ k ∧ k ≤ s.size ∧ i = .int .i64 k ∧ Hid (∀ j, j < k → n ≤ j → bt s j = 0)) (fun i => s.size - (intOf i).toNat)
  case atStart => exact ⟨n, Nat.le_refl _, hn, rfl, hid (fun j h1 h2 => absurd h1 (by omega))⟩
  case round =>
    obtain ⟨k, h1, h2, rfl, hall⟩ := hrel
    by_cases hlt : k < s.size
    · by_cases hb : bt s k = 0
      · have hnx := hid (show ∀ j, j < k + 1 → n ≤ j → bt s j = 0 from fun j h3 h4 => by
          by_cases e : j = k
          · subst e; exact hb
          · exact hall.out j (by omega) h4)
        go_wp2
        go_round
        case rel => exact ⟨k + 1, by omega, by omega, by go_num, hnx⟩
        case measure => simp [intOf]; omega
      · have hv := noughts_no hlt h1 hb
        have hb2 : (((bt s k).toNat : Int) != 0) = true := bne_iff_ne.2 fun hh => hb (UInt8.toNat_inj.1 (by simpa using hh))
        replace hv := hid hv
        clear hb
        go_wp2
        go_ret
        exact ⟨ret_b hv.out.symm, rfl⟩
    · have hv : noughts s n = true := noughts_yes fun i hi hni => hall.out i (by omega) hni
      replace hv := hid hv
      clear hall
      go_wp2
      go_ret
      exact ⟨ret_b hv.out.symm, rfl⟩

theorem ref_bad (w : World) : Calls Try.prog 81 #[] w fun e w' => e = .returned (.tuple #[.agg #[.int .i64 0, .int .i64 0, .int .i64 0, .slice none 0 0, .slice none 0 0], .int .i64 1]) ∧ Below w.heap.size w w' := by
  go_enter Try.func81, Try.ntmps81
  go_wp2
  exact bodyPost_ret (v := .tuple #[.agg #[.int .i64 0, .int .i64 0, .int .i64 0, .slice none 0 0, .slice none 0 0], .int .i64 1]) (by simp [results, Try.results81, go_sem]) rfl ⟨rfl, bal (b0 w) _⟩
end Go.Proofs.Ytjhmfljlclajnab
