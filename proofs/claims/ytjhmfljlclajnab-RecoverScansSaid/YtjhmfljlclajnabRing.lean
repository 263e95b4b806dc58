/- The walks of the ring: each call answers what the plain functions say. -/
import Derived.Test.YtjhmfljlclajnabRows
import Derived.Test.YtjhmfljlclajnabPure
import Derived.BigQuiet
namespace Go.Proofs.Ytjhmfljlclajnab
open Go.RowKit Wb
set_option linter.unusedVariables false
set_option linter.unusedSimpArgs false

theorem elemInt : Elem Try.prog 36 3 1 8 := Elem.mk' (z := .int .i64 0) Try.underlying36 (by kernel_rfl) rfl

theorem ring_parts (n e : Int) (w : World) (h0 : 0 ≤ n) (h1 : n ≤ 24) (h2 : 10 ≤ e) (h3 : e ≤ 20) :
    Calls Try.prog 86 #[.int .i64 n, .int .i64 e] w fun e' w' => e' = .returned (.int .i64 (partsOf n e)) ∧ w = w' := by
  have h4 : (e == 0) = false := beq_eq_false_iff_ne.2 (by omega)
  go_enter Try.func86, Try.ntmps86
  go_wp2
  go_ret
  exact ⟨ret_i rfl, rfl⟩

theorem ring_Most (n : Int) (w : World) :
    Calls Try.prog 65 #[.int .i64 n] w fun e' w' => e' = .returned (.int .i64 (mostN n)) ∧ w = w' := by
  have e2 : mostN n = clamp24 n + partsOf (clamp24 n) 10 + partsOf (clamp24 n) 20 + 1 := rfl
  have g0 : 0 ≤ clamp24 n ∧ clamp24 n ≤ 24 := by unfold clamp24; omega
  have g1 : 0 ≤ partsOf (clamp24 n) 20 ∧ partsOf (clamp24 n) 20 ≤ 2 := by unfold partsOf; omega
  have g2 : 0 ≤ partsOf (clamp24 n) 10 ∧ partsOf (clamp24 n) 10 ≤ 3 := by unfold partsOf; omega
  obtain ⟨g1, g1'⟩ := g1
  obtain ⟨g2, g2'⟩ := g2
  obtain ⟨g0, g0'⟩ := g0
  rw [e2]
  have hc : (n ≤ 0 ∧ clamp24 n = 0) ∨ (24 < n ∧ clamp24 n = 24) ∨ (0 < n ∧ n ≤ 24 ∧ clamp24 n = n) := by unfold clamp24; omega
  clear e2
  generalize clamp24 n = c at *
  rcases hc with ⟨h1, rfl⟩ | ⟨h1, rfl⟩ | ⟨h1, h1', rfl⟩
  all_goals
    go_enter Try.func65, Try.ntmps65
    go_wp2_with (go_at_call 86; refine (ring_parts _ _ _ (by omega) (by omega) (by omega) (by omega)).mono ?_; rintro e w' ⟨rfl, rfl⟩)
    go_ret
    exact ⟨ret_i (by omega), rfl⟩

theorem ref_MostOf (n : Int) (w : World) :
    Calls Try.prog 66 #[.int .i64 n] w fun e' w' => e' = .returned (.int .i64 (mostN n)) ∧ w = w' := by
  have e2 : mostN n = clamp24 n + partsOf (clamp24 n) 10 + partsOf (clamp24 n) 20 + 1 := rfl
  have g0 : 0 ≤ clamp24 n ∧ clamp24 n ≤ 24 := by unfold clamp24; omega
  have hp : ∀ j : Nat, 10 * (j : Int) ≥ clamp24 n → 10 * ((j : Int) - 1) < clamp24 n → partsOf (clamp24 n) 10 = j := by intro j h1 h2; unfold partsOf; omega
  have hq : ∀ j : Nat, 20 * (j : Int) ≥ clamp24 n → 20 * ((j : Int) - 1) < clamp24 n → partsOf (clamp24 n) 20 = j := by intro j h1 h2; unfold partsOf; omega
  obtain ⟨g0, g0'⟩ := g0
  rw [e2]
  have hc : (n ≤ 0 ∧ clamp24 n = 0) ∨ (24 < n ∧ clamp24 n = 24) ∨ (0 < n ∧ n ≤ 24 ∧ clamp24 n = n) := by unfold clamp24; omega
  clear e2
  generalize clamp24 n = c at *
  have Hp := hid hp
  have Hq := hid hq
  clear hp hq
  rcases hc with ⟨h1, rfl⟩ | ⟨h1, rfl⟩ | ⟨h1, h1', rfl⟩
  all_goals
    go_enter Try.func66, Try.ntmps66
    go_wp2
  · go_loop [3, 4] (fun n k => ∃ j : Nat, (j : Int) ≤ 3 ∧ 10 * ((j : Int) - 1) < 0 ∧ k = .int .i64 (10 * j) ∧ n = .int .i64 (1 + j)) (fun _ k => (40 - intOf k).toNat)
    case atStart => exact ⟨0, by omega, by omega, rfl, by simp⟩
    case round =>
      obtain ⟨j, h1, h2, rfl, rfl⟩ := hrel
      go_wp2
      go_loop [3, 5] (fun n k => ∃ i : Nat, (i : Int) ≤ 3 ∧ 20 * ((i : Int) - 1) < 0 ∧ k = .int .i64 (20 * i) ∧ n = .int .i64 (1 + j + i)) (fun _ k => (60 - intOf k).toNat)
      case atStart => exact ⟨0, by omega, by omega, rfl, by simp⟩
      case round =>
        obtain ⟨i, h3, h4, rfl, rfl⟩ := hrel
        go_wp2
        go_ret
        exact ⟨ret_i (by rw [Hp.out j (by omega) h2, Hq.out i (by omega) h4]; omega), rfl⟩
  · go_loop [3, 4] (fun n k => ∃ j : Nat, (j : Int) ≤ 3 ∧ 10 * ((j : Int) - 1) < 24 ∧ k = .int .i64 (10 * j) ∧ n = .int .i64 (25 + j)) (fun _ k => (40 - intOf k).toNat)
    case atStart => exact ⟨0, by omega, by omega, rfl, by simp⟩
    case round =>
      obtain ⟨j, h1, h2, rfl, rfl⟩ := hrel
      by_cases hlt : 10 * (j : Int) < 24
      · go_wp2
        go_round
        case rel => exact ⟨j + 1, by omega, by omega, by go_num, by go_num⟩
        case measure => simp [intOf]; omega
      · go_wp2
        go_loop [3, 5] (fun n k => ∃ i : Nat, (i : Int) ≤ 3 ∧ 20 * ((i : Int) - 1) < 24 ∧ k = .int .i64 (20 * i) ∧ n = .int .i64 (25 + j + i)) (fun _ k => (60 - intOf k).toNat)
        case atStart => exact ⟨0, by omega, by omega, rfl, by simp⟩
        case round =>
          obtain ⟨i, h3, h4, rfl, rfl⟩ := hrel
          by_cases hlt : 20 * (i : Int) < 24
          · go_wp2
            go_round
            case rel => exact ⟨i + 1, by omega, by omega, by go_num, by go_num⟩
            case measure => simp [intOf]; omega
          · go_wp2
            go_ret
            exact ⟨ret_i (by rw [Hp.out j (by omega) h2, Hq.out i (by omega) h4]; omega), rfl⟩
  · go_loop [3, 4] (fun v k => ∃ j : Nat, (j : Int) ≤ 3 ∧ 10 * ((j : Int) - 1) < c ∧ k = .int .i64 (10 * j) ∧ v = .int .i64 (c + 1 + j)) (fun _ k => (40 - intOf k).toNat)
    case atStart => exact ⟨0, by omega, by omega, rfl, by simp⟩
    case round =>
      obtain ⟨j, h1, h2, rfl, rfl⟩ := hrel
      by_cases hlt : 10 * (j : Int) < c
      · go_wp2
        go_round
        case rel => exact ⟨j + 1, by omega, by omega, by go_num, by go_num⟩
        case measure => simp [intOf]; omega
      · go_wp2
        go_loop [3, 5] (fun v k => ∃ i : Nat, (i : Int) ≤ 3 ∧ 20 * ((i : Int) - 1) < c ∧ k = .int .i64 (20 * i) ∧ v = .int .i64 (c + 1 + j + i)) (fun _ k => (60 - intOf k).toNat)
        case atStart => exact ⟨0, by omega, by omega, rfl, by simp⟩
        case round =>
          obtain ⟨i, h3, h4, rfl, rfl⟩ := hrel
          by_cases hlt : 20 * (i : Int) < c
          · go_wp2
            go_round
            case rel => exact ⟨i + 1, by omega, by omega, by go_num, by go_num⟩
            case measure => simp [intOf]; omega
          · go_wp2
            go_ret
            exact ⟨ret_i (by rw [Hp.out j (by omega) h2, Hq.out i (by omega) h4]; omega), rfl⟩

end Go.Proofs.Ytjhmfljlclajnab
