/- Part of the proof: Ring. -/
import Derived.Test.YtjhmfljlclajnadGreatDoorRows
import Derived.Test.YtjhmfljlclajnadGreatDoorUPure
set_option linter.unusedVariables false
set_option linter.unusedSimpArgs false
set_option maxRecDepth 100000
set_option maxHeartbeats 40000000
namespace Go.Proofs.YtjhmfljlclajnadGreatDoor
open Go.RowKit Wb
theorem elemInt : Elem Tryz.prog 38 3 1 8 := Elem.mk' (z := .int .i64 0) Tryz.underlying38 (by kernel_rfl) rfl
theorem ring_Good (r : Ring) (w : World) :
    Calls Tryz.prog 79 #[r.val] w fun e w' => e = .returned (.bool (goodR r)) /\ Below w.heap.size w w' := by
 obtain ⟨h, u⟩ := r
 unfold Ring.val
 have hg := goodR_iff ⟨h, u⟩
 have hn := goodR_not ⟨h, u⟩
 dsimp only at hg hn
 generalize goodR ⟨h, u⟩ = x at *
 have Hg := hid hg; have Hn := hid hn; clear hg hn
 go_enter Tryz.func79, Tryz.ntmps79
 go_wp2
 all_goals
  go_ret
  refine ⟨ret_b ?_, (Below.refl _ _).alloc (Nat.le_refl _) _⟩
  cases x
  ·have hh := Hn.out.1 rfl
   simp <;> omega
  ·have hh := Hg.out.1 rfl
   simp <;> omega
theorem ring_Free (r : Ring) (w : World) (h0 : 0 <= r.used) (h1 : r.used <= 24) :
    Calls Tryz.prog 60 #[r.val] w fun e w' => e = .returned (.int .i64 (24 - r.used)) /\ Below w.heap.size w w' := by
 obtain ⟨h, u⟩ := r
 unfold Ring.val
 dsimp only at h0 h1 ⊢
 go_enter Tryz.func60, Tryz.ntmps60
 go_wp2
 go_ret
 exact ⟨ret_i rfl, (Below.refl _ _).alloc (Nat.le_refl _) _⟩
theorem ring_parts (n e : Int) (w : World) (h0 : 0 <= n) (h1 : n <= 24) (h2 : 10 <= e) (h3 : e <= 20) :
    Calls Tryz.prog 110 #[.int .i64 n, .int .i64 e] w fun e' w' => e' = .returned (.int .i64 (partsOf n e)) /\ w = w' := by
 have h4 : (e == 0) = false := beq_eq_false_iff_ne.2 (by omega)
 go_enter Tryz.func110, Tryz.ntmps110
 go_wp2
 go_ret
 exact ⟨ret_i rfl, rfl⟩
theorem ring_Need (m r : Int) (w : World) :
    Calls Tryz.prog 81 #[.int .i64 m, .int .i64 r] w fun e' w' => e' = .returned (.tuple #[.int .i64 (needN m r), .int .i64 (needE m r)]) /\ w = w' := by
 by_cases h : m < 0 \/ m > 12 \/ r < 0 \/ r > 12
 ·have e1 : needE m r = 2 := by simp [needE, h]
  have e2 : needN m r = 0 := by simp [needN, e1]
  rw [e1, e2]
  clear e1 e2
  go_enter Tryz.func81, Tryz.ntmps81
  go_wp2
  all_goals
   go_ret2
   exact ⟨rfl, rfl⟩
 ·have e1 : needE m r = 0 := by simp [needE, h]
  have e2 : needN m r = partsOf r 20 + partsOf m 10 + m + 1 := by simp [needN, e1]
  rw [e1, e2]
  have g1 : 0 <= partsOf r 20 /\ partsOf r 20 <= 2 := by unfold partsOf; omega
  have g2 : 0 <= partsOf m 10 /\ partsOf m 10 <= 3 := by unfold partsOf; omega
  obtain ⟨g1, g1'⟩ := g1
  obtain ⟨g2, g2'⟩ := g2
  have a1 : 0 <= m := by omega
  have a2 : m <= 12 := by omega
  have a3 : 0 <= r := by omega
  have a4 : r <= 12 := by omega
  clear e1 e2 h
  go_enter Tryz.func81, Tryz.ntmps81
  go_wp2_with (go_at_call 110; refine (ring_parts _ _ _ (by omega) (by omega) (by omega) (by omega)).mono ?_; rintro e w' ⟨rfl, rfl⟩)
  go_ret2
  exact ⟨rfl, rfl⟩
theorem ring_Most (n : Int) (w : World) :
    Calls Tryz.prog 91 #[.int .i64 n] w fun e' w' => e' = .returned (.int .i64 (mostN n)) /\ w = w' := by
 have e2 : mostN n = clamp24 n + partsOf (clamp24 n) 10 + partsOf (clamp24 n) 20 + 1 := rfl
 have g0 : 0 <= clamp24 n /\ clamp24 n <= 24 := by unfold clamp24; omega
 have g1 : 0 <= partsOf (clamp24 n) 20 /\ partsOf (clamp24 n) 20 <= 2 := by unfold partsOf; omega
 have g2 : 0 <= partsOf (clamp24 n) 10 /\ partsOf (clamp24 n) 10 <= 3 := by unfold partsOf; omega
 obtain ⟨g1, g1'⟩ := g1
 obtain ⟨g2, g2'⟩ := g2
 obtain ⟨g0, g0'⟩ := g0
 rw [e2]
 have hc : (n <= 0 /\ clamp24 n = 0) \/ (24 < n /\ clamp24 n = 24) \/ (0 < n /\ n <= 24 /\ clamp24 n = n) := by unfold clamp24; omega
 clear e2
 generalize clamp24 n = c at *
 rcases hc with ⟨h1, rfl⟩ | ⟨h1, rfl⟩ | ⟨h1, h1', rfl⟩
 all_goals
  go_enter Tryz.func91, Tryz.ntmps91
  go_wp2_with (go_at_call 110; refine (ring_parts _ _ _ (by omega) (by omega) (by omega) (by omega)).mono ?_; rintro e w' ⟨rfl, rfl⟩)
  go_ret
  exact ⟨ret_i (by omega), rfl⟩
end Go.Proofs.YtjhmfljlclajnadGreatDoor
