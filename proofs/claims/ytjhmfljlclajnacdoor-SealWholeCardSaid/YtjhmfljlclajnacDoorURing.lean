/- Part of the proof: Ring. -/
import Derived.Test.YtjhmfljlclajnacDoorRows
import Derived.Test.YtjhmfljlclajnacDoorUPure
import Derived.BigQuiet
set_option linter.unusedVariables false
set_option linter.unusedSimpArgs false
namespace Go.Proofs.YtjhmfljlclajnacDoor
open Go.RowKit Wb
theorem elemInt : Elem Tryd.prog 50 3 1 8 := Elem.mk' (z := .int .i64 0) Tryd.underlying50 (by kernel_rfl) rfl
theorem ring_Good (r : Ring) (w : World) :
    Calls Tryd.prog 30 #[r.val] w fun e w' => e = .returned (.bool (goodR r)) ∧ Below w.heap.size w w' := by
 obtain ⟨h, u⟩ := r
 unfold Ring.val
 have hg := goodR_iff ⟨h, u⟩
 have hn := goodR_not ⟨h, u⟩
 dsimp only at hg hn
 generalize goodR ⟨h, u⟩ = x at *
 have Hg := hid hg; have Hn := hid hn; clear hg hn
 go_enter Tryd.func30, Tryd.ntmps30
 go_wp2
 all_goals
  go_ret
  refine ⟨ret_b ?_, (Below.refl _ _).alloc (Nat.le_refl _) _⟩
  cases x
  ·have hh := Hn.out.1 rfl
   simp <;> omega
  ·have hh := Hg.out.1 rfl
   simp <;> omega
theorem ring_Free (r : Ring) (w : World) (h0 : 0 ≤ r.used) (h1 : r.used ≤ 24) :
    Calls Tryd.prog 53 #[r.val] w fun e w' => e = .returned (.int .i64 (24 - r.used)) ∧ Below w.heap.size w w' := by
 obtain ⟨h, u⟩ := r
 unfold Ring.val
 dsimp only at h0 h1 ⊢
 go_enter Tryd.func53, Tryd.ntmps53
 go_wp2
 go_ret
 exact ⟨ret_i rfl, (Below.refl _ _).alloc (Nat.le_refl _) _⟩
theorem ring_parts (n e : Int) (w : World) (h0 : 0 ≤ n) (h1 : n ≤ 24) (h2 : 10 ≤ e) (h3 : e ≤ 20) :
    Calls Tryd.prog 52 #[.int .i64 n, .int .i64 e] w fun e' w' => e' = .returned (.int .i64 (partsOf n e)) ∧ w = w' := by
 have h4 : (e == 0) = false := beq_eq_false_iff_ne.2 (by omega)
 go_enter Tryd.func52, Tryd.ntmps52
 go_wp2
 go_ret
 exact ⟨ret_i rfl, rfl⟩
theorem ring_Need (m r : Int) (w : World) :
    Calls Tryd.prog 32 #[.int .i64 m, .int .i64 r] w fun e' w' => e' = .returned (.tuple #[.int .i64 (needN m r), .int .i64 (needE m r)]) ∧ w = w' := by
 by_cases h : m < 0 ∨ m > 12 ∨ r < 0 ∨ r > 12
 ·have e1 : needE m r = 2 := by simp [needE, h]
  have e2 : needN m r = 0 := by simp [needN, e1]
  rw [e1, e2]
  clear e1 e2
  go_enter Tryd.func32, Tryd.ntmps32
  go_wp2
  all_goals
   go_ret2
   exact ⟨rfl, rfl⟩
 ·have e1 : needE m r = 0 := by simp [needE, h]
  have e2 : needN m r = partsOf r 20 + partsOf m 10 + m + 1 := by simp [needN, e1]
  rw [e1, e2]
  have g1 : 0 ≤ partsOf r 20 ∧ partsOf r 20 ≤ 2 := by unfold partsOf; omega
  have g2 : 0 ≤ partsOf m 10 ∧ partsOf m 10 ≤ 3 := by unfold partsOf; omega
  obtain ⟨g1, g1'⟩ := g1
  obtain ⟨g2, g2'⟩ := g2
  have a1 : 0 ≤ m := by omega
  have a2 : m ≤ 12 := by omega
  have a3 : 0 ≤ r := by omega
  have a4 : r ≤ 12 := by omega
  clear e1 e2 h
  go_enter Tryd.func32, Tryd.ntmps32
  go_wp2_with (go_at_call 52; refine (ring_parts _ _ _ (by omega) (by omega) (by omega) (by omega)).mono ?_; rintro e w' ⟨rfl, rfl⟩)
  go_ret2
  exact ⟨rfl, rfl⟩
end Go.Proofs.YtjhmfljlclajnacDoor
