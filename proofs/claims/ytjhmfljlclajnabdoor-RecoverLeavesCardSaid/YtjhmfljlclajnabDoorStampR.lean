/- The walks of the reference's rising and GoodMark. -/
import Derived.Test.YtjhmfljlclajnabDoorRing
import Derived.Test.YtjhmfljlclajnabDoorPure
namespace Go.Proofs.YtjhmfljlclajnabDoor
open Go.RowKit Wb
set_option linter.unusedVariables false
set_option linter.unusedSimpArgs false
set_option maxRecDepth 100000
set_option maxHeartbeats 4000000

theorem rlist_getD {xs : List Int} {k : Nat} (hk : k < xs.length) : xs.getD k 0 = xs[k] := by simp [hk]

theorem ref_rising (v : Value) (xs : List Int) (w : World) (hx : RL intC w v xs) :
    Calls Tryd.prog 72 #[v] w fun e w' => e = .returned (.bool (rise xs)) ∧ w = w' := by
  obtain ⟨a, cap, rfl, c1, c2⟩ := hx.form
  unfold maxLen at c2
  have hyes : riseTo xs xs.length → rise xs = true := (rise_iff xs).2
  have hno : ∀ k, k < xs.length → ¬ riseAt xs k → rise xs = false := fun k => rise_no
  generalize rise xs = r at *
  replace hyes := hid hyes
  replace hno := hid hno
  go_enter Tryd.func72, Tryd.ntmps72
  go_wp2
  go_loop [2, 3, 5, 8] (fun _ q _ i => ∃ (k : Nat) (p : Int), k ≤ xs.length ∧ i = .int .i64 k ∧ q = .int .i64 p ∧ riseTo xs k ∧ (k = 0 → p = -1) ∧ (0 < k → p = xs.getD (k - 1) 0)) (fun _ _ _ i => xs.length - (intOf i).toNat)
  case atStart => exact ⟨0, -1, Nat.zero_le _, rfl, rfl, fun j hj => absurd hj (Nat.not_lt_zero j), fun _ => rfl, fun h => absurd h (Nat.lt_irrefl 0)⟩
  case round =>
    obtain ⟨k, p, hk, rfl, rfl, hr, hp0, hp1⟩ := hrel
    by_cases hlt : k < xs.length
    · obtain ⟨b, off, rfl, d0⟩ := RL.at1 (fun x => .int .i64 x) (fun _ => rfl) hx hlt
      have hxk := rlist_getD hlt
      have hiff : riseAt xs k ↔ p < xs[k] ∧ xs[k] ≤ 11 := by
        unfold riseAt
        rw [hxk]
        rcases Nat.eq_zero_or_pos k with h0 | h0
        · have := hp0 h0; omega
        · have h2 := hr (k - 1) (by omega)
          unfold riseAt at h2
          have h3 := hp1 h0
          omega
      by_cases hok : p < xs[k] ∧ xs[k] ≤ 11
      · have hr1 := riseTo_succ hr (hiff.2 hok)
        replace hr1 := hid hr1
        have hp2 : xs[k] = xs.getD (k + 1 - 1) 0 := by rw [Nat.add_sub_cancel, hxk]
        replace hp2 := hid hp2
        generalize xs[k] = x at *
        obtain ⟨o1, o2⟩ := hok
        clear hiff hxk hp0 hp1 hr
        go_wp2
        go_round
        case rel => exact ⟨k + 1, x, by omega, by go_num, rfl, hr1.out, fun h => absurd h (by omega), fun _ => hp2.out⟩
        case measure => simp [intOf]; omega
      · obtain rfl := hno.out k hlt (fun hh => hok (hiff.1 hh))
        have hbad : xs[k] ≤ p ∨ 11 < xs[k] := by omega
        generalize xs[k] = x at *
        clear hiff hxk hp0 hp1 hr hok hyes
        go_wp2
        all_goals
          go_ret
          exact ⟨rfl, rfl⟩
    · obtain rfl : k = xs.length := by omega
      obtain rfl := hyes.out hr
      clear hp0 hp1 hr
      go_wp2
      go_ret
      exact ⟨rfl, rfl⟩
end Go.Proofs.YtjhmfljlclajnabDoor
