/- The walks of the ring: each call answers what the plain functions say. -/
import Derived.Test.YtjhmfljlclajnaaRows
import Derived.Test.YtjhmfljlclajnaaPure
import Derived.BigQuiet
namespace Go.Proofs.Ytjhmfljlclajnaa
open Go.RowKit Wb
set_option linter.unusedVariables false
set_option linter.unusedSimpArgs false

theorem elemInt : Elem Try.prog 25 3 1 8 := Elem.mk' (z := .int .i64 0) Try.underlying25 (by kernel_rfl) rfl

theorem ring_Good (r : Ring) (w : World) :
    Calls Try.prog 18 #[r.val] w fun e w' => e = .returned (.bool (goodR r)) ∧ Below w.heap.size w w' := by
  obtain ⟨h, u⟩ := r
  unfold Ring.val
  have hg := goodR_iff ⟨h, u⟩
  have hn := goodR_not ⟨h, u⟩
  dsimp only at hg hn
  generalize goodR ⟨h, u⟩ = x at *
  have Hg := hid hg; have Hn := hid hn; clear hg hn
  go_enter Try.func18, Try.ntmps18
  go_wp2
  all_goals
    go_ret
    refine ⟨ret_b ?_, (Below.refl _ _).alloc (Nat.le_refl _) _⟩
    cases x
    · have hh := Hn.out.1 rfl
      simp <;> omega
    · have hh := Hg.out.1 rfl
      simp <;> omega

theorem ring_GoodRing (r : Ring) (w : World) :
    Calls Try.prog 19 #[r.val] w fun e w' => e = .returned (.bool (goodR r)) ∧ Below w.heap.size w w' := by
  obtain ⟨h, u⟩ := r
  unfold Ring.val
  have hg := goodR_iff ⟨h, u⟩
  have hn := goodR_not ⟨h, u⟩
  dsimp only at hg hn
  generalize goodR ⟨h, u⟩ = x at *
  have Hg := hid hg; have Hn := hid hn; clear hg hn
  go_enter Try.func19, Try.ntmps19
  go_wp2
  all_goals
    go_ret
    refine ⟨ret_b ?_, (Below.refl _ _).alloc (Nat.le_refl _) _⟩
    cases x
    · have hh := Hn.out.1 rfl
      simp <;> omega
    · have hh := Hg.out.1 rfl
      simp <;> omega

theorem ring_Free (r : Ring) (w : World) (h0 : 0 ≤ r.used) (h1 : r.used ≤ 24) :
    Calls Try.prog 20 #[r.val] w fun e w' => e = .returned (.int .i64 (24 - r.used)) ∧ Below w.heap.size w w' := by
  obtain ⟨h, u⟩ := r
  unfold Ring.val
  dsimp only at h0 h1 ⊢
  go_enter Try.func20, Try.ntmps20
  go_wp2
  go_ret
  exact ⟨ret_i rfl, (Below.refl _ _).alloc (Nat.le_refl _) _⟩

theorem ring_parts (n e : Int) (w : World) (h0 : 0 ≤ n) (h1 : n ≤ 24) (h2 : 10 ≤ e) (h3 : e ≤ 20) :
    Calls Try.prog 61 #[.int .i64 n, .int .i64 e] w fun e' w' => e' = .returned (.int .i64 (partsOf n e)) ∧ w = w' := by
  have h4 : (e == 0) = false := beq_eq_false_iff_ne.2 (by omega)
  go_enter Try.func61, Try.ntmps61
  go_wp2
  go_ret
  exact ⟨ret_i rfl, rfl⟩

theorem ring_Need (m r : Int) (w : World) :
    Calls Try.prog 25 #[.int .i64 m, .int .i64 r] w fun e' w' => e' = .returned (.tuple #[.int .i64 (needN m r), .int .i64 (needE m r)]) ∧ w = w' := by
  by_cases h : m < 0 ∨ m > 12 ∨ r < 0 ∨ r > 12
  · have e1 : needE m r = 2 := by simp [needE, h]
    have e2 : needN m r = 0 := by simp [needN, e1]
    rw [e1, e2]
    clear e1 e2
    go_enter Try.func25, Try.ntmps25
    go_wp2
    all_goals
      go_ret2
      exact ⟨rfl, rfl⟩
  · have e1 : needE m r = 0 := by simp [needE, h]
    have e2 : needN m r = partsOf r 20 + partsOf m 10 + m + 1 := by simp [needN, e1]
    rw [e1, e2]
    have g1 : 0 ≤ partsOf r 20 ∧ partsOf r 20 ≤ 2 := by unfold partsOf; omega
    have g2 : 0 ≤ partsOf m 10 ∧ partsOf m 10 ≤ 3 := by unfold partsOf; omega
    obtain ⟨g1, g1'⟩ := g1
    obtain ⟨g2, g2'⟩ := g2
    have a1 : 0 ≤ m := by omega
    have a2 : m ≤ 12 := by omega
    have a3 : 0 ≤ r := by omega
    have a4 : r ≤ 12 := by omega
    clear e1 e2 h
    go_enter Try.func25, Try.ntmps25
    go_wp2_with (go_at_call 61; refine (ring_parts _ _ _ (by omega) (by omega) (by omega) (by omega)).mono ?_; rintro e w' ⟨rfl, rfl⟩)
    go_ret2
    exact ⟨rfl, rfl⟩


theorem ring_Most (n : Int) (w : World) :
    Calls Try.prog 27 #[.int .i64 n] w fun e' w' => e' = .returned (.int .i64 (mostN n)) ∧ w = w' := by
  have e2 : mostN n = clamp24 n + partsOf (clamp24 n) 10 + partsOf (clamp24 n) 20 + 1 := rfl
  have g0 : 0 ≤ clamp24 n ∧ clamp24 n ≤ 24 := by unfold clamp24; omega
  have g1 : 0 ≤ partsOf (clamp24 n) 20 ∧ partsOf (clamp24 n) 20 ≤ 2 := by unfold partsOf; omega
  have g2 : 0 ≤ partsOf (clamp24 n) 10 ∧ partsOf (clamp24 n) 10 ≤ 3 := by unfold partsOf; omega
  obtain ⟨g1, g1'⟩ := g1
  obtain ⟨g2, g2'⟩ := g2
  obtain ⟨g0, g0'⟩ := g0
  rw [e2]
  have hc : (n ≤ 0 ∧ clamp24 n = 0) ∨ (24 < n ∧ clamp24 n = 24) ∨ (0 < n ∧ n ≤ 24 ∧ clamp24 n = n) := by unfold clamp24; omega
  clear e2
  generalize clamp24 n = c at *
  rcases hc with ⟨h1, rfl⟩ | ⟨h1, rfl⟩ | ⟨h1, h1', rfl⟩
  all_goals
    go_enter Try.func27, Try.ntmps27
    go_wp2_with (go_at_call 61; refine (ring_parts _ _ _ (by omega) (by omega) (by omega) (by omega)).mono ?_; rintro e w' ⟨rfl, rfl⟩)
    go_ret
    exact ⟨ret_i (by omega), rfl⟩

theorem ref_NeedOf (m r : Int) (w : World) :
    Calls Try.prog 26 #[.int .i64 m, .int .i64 r] w fun e' w' => e' = .returned (.tuple #[.int .i64 (needN m r), .int .i64 (needE m r)]) ∧ w = w' := by
  by_cases h : m < 0 ∨ m > 12 ∨ r < 0 ∨ r > 12
  · have e1 : needE m r = 2 := by simp [needE, h]
    have e2 : needN m r = 0 := by simp [needN, e1]
    rw [e1, e2]
    clear e1 e2
    go_enter Try.func26, Try.ntmps26
    go_wp2
    all_goals
      go_ret2
      exact ⟨rfl, rfl⟩
  · have e1 : needE m r = 0 := by simp [needE, h]
    have e2 : needN m r = partsOf r 20 + partsOf m 10 + m + 1 := by simp [needN, e1]
    rw [e1, e2]
    have hp : ∀ j : Nat, 10 * (j : Int) ≥ m → 10 * ((j : Int) - 1) < m → partsOf m 10 = j := by intro j h1 h2; unfold partsOf; omega
    have Hp := hid hp
    clear hp
    obtain ⟨a1, a2, a3, a4⟩ : 0 ≤ m ∧ m ≤ 12 ∧ 0 ≤ r ∧ r ≤ 12 := by omega
    have g1 : (r > 0 ∧ partsOf r 20 = 1) ∨ (r ≤ 0 ∧ partsOf r 20 = 0) := by unfold partsOf; omega
    clear e1 e2 h
    rcases g1 with ⟨b1, g1⟩ | ⟨b1, g1⟩
    ·
      rw [g1]
      clear g1
      go_enter Try.func26, Try.ntmps26
      go_wp2
      go_loop [6, 7] (fun n k => ∃ j : Nat, (j : Int) ≤ 2 ∧ 10 * ((j : Int) - 1) < m ∧ k = .int .i64 (10 * j) ∧ n = .int .i64 (1 + m + 1 + j)) (fun _ k => (20 - intOf k).toNat)
      case atStart => exact ⟨0, by omega, by omega, rfl, by simp⟩
      case round =>
        obtain ⟨j, h1, h2, rfl, rfl⟩ := hrel
        by_cases hlt : 10 * (j : Int) < m
        · go_wp2
          go_round
          case rel => exact ⟨j + 1, by omega, by omega, by go_num, by go_num⟩
          case measure => simp [intOf]; omega
        · go_wp2
          go_ret2
          exact ⟨ret_t (by rw [Hp.out j (by omega) h2]; omega), rfl⟩
    ·
      rw [g1]
      clear g1
      go_enter Try.func26, Try.ntmps26
      go_wp2
      go_loop [6, 7] (fun n k => ∃ j : Nat, (j : Int) ≤ 2 ∧ 10 * ((j : Int) - 1) < m ∧ k = .int .i64 (10 * j) ∧ n = .int .i64 (1 + m + j)) (fun _ k => (20 - intOf k).toNat)
      case atStart => exact ⟨0, by omega, by omega, rfl, by simp⟩
      case round =>
        obtain ⟨j, h1, h2, rfl, rfl⟩ := hrel
        by_cases hlt : 10 * (j : Int) < m
        · go_wp2
          go_round
          case rel => exact ⟨j + 1, by omega, by omega, by go_num, by go_num⟩
          case measure => simp [intOf]; omega
        · go_wp2
          go_ret2
          exact ⟨ret_t (by rw [Hp.out j (by omega) h2]; omega), rfl⟩

theorem ref_MostOf (n : Int) (w : World) :
    Calls Try.prog 28 #[.int .i64 n] w fun e' w' => e' = .returned (.int .i64 (mostN n)) ∧ w = w' := by
  have e2 : mostN n = clamp24 n + partsOf (clamp24 n) 10 + partsOf (clamp24 n) 20 + 1 := rfl
  have g0 : 0 ≤ clamp24 n ∧ clamp24 n ≤ 24 := by unfold clamp24; omega
  have hp : ∀ j : Nat, 10 * (j : Int) ≥ clamp24 n → 10 * ((j : Int) - 1) < clamp24 n → partsOf (clamp24 n) 10 = j := by intro j h1 h2; unfold partsOf; omega
  have hq : ∀ j : Nat, 20 * (j : Int) ≥ clamp24 n → 20 * ((j : Int) - 1) < clamp24 n → partsOf (clamp24 n) 20 = j := by intro j h1 h2; unfold partsOf; omega
  obtain ⟨g0, g0'⟩ := g0
  rw [e2]
  have hc : (n ≤ 0 ∧ clamp24 n = 0) ∨ (24 < n ∧ clamp24 n = 24) ∨ (0 < n ∧ n ≤ 24 ∧ clamp24 n = n) := by unfold clamp24; omega
  clear e2
  generalize clamp24 n = c at *
  have Hp := hid hp
  have Hq := hid hq
  clear hp hq
  rcases hc with ⟨h1, rfl⟩ | ⟨h1, rfl⟩ | ⟨h1, h1', rfl⟩
  all_goals
    go_enter Try.func28, Try.ntmps28
    go_wp2
  · go_loop [3, 4] (fun n k => ∃ j : Nat, (j : Int) ≤ 3 ∧ 10 * ((j : Int) - 1) < 0 ∧ k = .int .i64 (10 * j) ∧ n = .int .i64 (1 + j)) (fun _ k => (40 - intOf k).toNat)
    case atStart => exact ⟨0, by omega, by omega, rfl, by simp⟩
    case round =>
      obtain ⟨j, h1, h2, rfl, rfl⟩ := hrel
      go_wp2
      go_loop [3, 5] (fun n k => ∃ i : Nat, (i : Int) ≤ 3 ∧ 20 * ((i : Int) - 1) < 0 ∧ k = .int .i64 (20 * i) ∧ n = .int .i64 (1 + j + i)) (fun _ k => (60 - intOf k).toNat)
      case atStart => exact ⟨0, by omega, by omega, rfl, by simp⟩
      case round =>
        obtain ⟨i, h3, h4, rfl, rfl⟩ := hrel
        go_wp2
        go_ret
        exact ⟨ret_i (by rw [Hp.out j (by omega) h2, Hq.out i (by omega) h4]; omega), rfl⟩
  · go_loop [3, 4] (fun n k => ∃ j : Nat, (j : Int) ≤ 3 ∧ 10 * ((j : Int) - 1) < 24 ∧ k = .int .i64 (10 * j) ∧ n = .int .i64 (25 + j)) (fun _ k => (40 - intOf k).toNat)
    case atStart => exact ⟨0, by omega, by omega, rfl, by simp⟩
    case round =>
      obtain ⟨j, h1, h2, rfl, rfl⟩ := hrel
      by_cases hlt : 10 * (j : Int) < 24
      · go_wp2
        go_round
        case rel => exact ⟨j + 1, by omega, by omega, by go_num, by go_num⟩
        case measure => simp [intOf]; omega
      · go_wp2
        go_loop [3, 5] (fun n k => ∃ i : Nat, (i : Int) ≤ 3 ∧ 20 * ((i : Int) - 1) < 24 ∧ k = .int .i64 (20 * i) ∧ n = .int .i64 (25 + j + i)) (fun _ k => (60 - intOf k).toNat)
        case atStart => exact ⟨0, by omega, by omega, rfl, by simp⟩
        case round =>
          obtain ⟨i, h3, h4, rfl, rfl⟩ := hrel
          by_cases hlt : 20 * (i : Int) < 24
          · go_wp2
            go_round
            case rel => exact ⟨i + 1, by omega, by omega, by go_num, by go_num⟩
            case measure => simp [intOf]; omega
          · go_wp2
            go_ret
            exact ⟨ret_i (by rw [Hp.out j (by omega) h2, Hq.out i (by omega) h4]; omega), rfl⟩
  · go_loop [3, 4] (fun v k => ∃ j : Nat, (j : Int) ≤ 3 ∧ 10 * ((j : Int) - 1) < c ∧ k = .int .i64 (10 * j) ∧ v = .int .i64 (c + 1 + j)) (fun _ k => (40 - intOf k).toNat)
    case atStart => exact ⟨0, by omega, by omega, rfl, by simp⟩
    case round =>
      obtain ⟨j, h1, h2, rfl, rfl⟩ := hrel
      by_cases hlt : 10 * (j : Int) < c
      · go_wp2
        go_round
        case rel => exact ⟨j + 1, by omega, by omega, by go_num, by go_num⟩
        case measure => simp [intOf]; omega
      · go_wp2
        go_loop [3, 5] (fun v k => ∃ i : Nat, (i : Int) ≤ 3 ∧ 20 * ((i : Int) - 1) < c ∧ k = .int .i64 (20 * i) ∧ v = .int .i64 (c + 1 + j + i)) (fun _ k => (60 - intOf k).toNat)
        case atStart => exact ⟨0, by omega, by omega, rfl, by simp⟩
        case round =>
          obtain ⟨i, h3, h4, rfl, rfl⟩ := hrel
          by_cases hlt : 20 * (i : Int) < c
          · go_wp2
            go_round
            case rel => exact ⟨i + 1, by omega, by omega, by go_num, by go_num⟩
            case measure => simp [intOf]; omega
          · go_wp2
            go_ret
            exact ⟨ret_i (by rw [Hp.out j (by omega) h2, Hq.out i (by omega) h4]; omega), rfl⟩

end Go.Proofs.Ytjhmfljlclajnaa
