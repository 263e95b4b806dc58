/- Whether the ring answers at all; the law on Need and Most. -/
import Derived.Test.YtjhmfljlclajnaaRing3
namespace Go.Proofs.Ytjhmfljlclajnaa
open Go.RowKit Wb
set_option linter.unusedVariables false
set_option linter.unusedSimpArgs false
set_option maxRecDepth 100000

theorem take22 : takeR ⟨22, 0⟩ 3 = ⟨1, 3⟩ ∧ takeL ⟨22, 0⟩ 3 = [22, 23, 0] ∧ takeE ⟨22, 0⟩ 3 = 0 := ⟨rfl, rfl, rfl⟩

theorem law_rings (w : World) :
    Calls Try.prog 22 #[] w fun e w' => e = .returned (.bool true) ∧ Below w.heap.size w w' := by
  have hT := fun w => ring_Take ⟨22, 0⟩ 3 w
  obtain ⟨t1, t2, t3⟩ := take22
  rw [t1, t2, t3] at hT
  unfold Ring.val at hT
  dsimp only at hT
  replace hT := hid hT
  clear t1 t2 t3
  go_enter Try.func22, Try.ntmps22
  go_wp2_with fail
  refine (hT.out _).mono ?_
  rintro e w1 ⟨v, rfl, hown, hb1⟩
  obtain ⟨a, cap, rfl⟩ := hown.form
  obtain ⟨b, off, rfl, c2⟩ := RL.at1 (fun x => .int .i64 x) (fun _ => rfl) hown.reads (k := 2) (by decide)
  have hlt := World.block_lt_of_cell? _ _ c2
  have c2 : w1.cell? ⟨b, off + 2, none⟩ = some (.int .i64 0) := c2
  have hB : Below w.heap.size w w1 := hb1
  go_wp2
  all_goals go_ret
  all_goals exact ⟨ret_b rfl, by repeat (first | exact Below.refl _ _ | with_reducible assumption | (refine allocB ?_ (by first | omega | (simp; done) | (simp; omega)) _) | (refine Below.setCell ?_ (by first | omega | (simp; done) | (simp; omega)) _) | refine Below.drew ?_ | (refine Below.trans ?_ (Below.mono (by with_reducible assumption) (by first | omega | (simp; done) | (simp; omega)))))⟩

theorem law_RingNeeds (m r : Int) (w : World) :
    Calls Try.prog 6 #[.int .i64 m, .int .i64 r] w fun e w' => e = .returned (.bool true) ∧ Below w.heap.size w w' := by
  go_enter Try.func6, Try.ntmps6
  go_wp2_with (first
    | (go_at_call 25; refine (ring_Need _ _ _).mono ?_; rintro e w' ⟨rfl, rfl⟩)
    | (go_at_call 26; refine (ref_NeedOf _ _ _).mono ?_; rintro e w' ⟨rfl, rfl⟩)
    | (go_at_call 27; refine (ring_Most _ _).mono ?_; rintro e w' ⟨rfl, rfl⟩)
    | (go_at_call 28; refine (ref_MostOf _ _).mono ?_; rintro e w' ⟨rfl, rfl⟩)
    | (go_at_call 22; refine (law_rings _).mono ?_; rintro e w1 ⟨rfl, hb1⟩))
  go_ret
  exact ⟨ret_b rfl, by repeat (first | exact Below.refl _ _ | with_reducible assumption | (refine allocB ?_ (by first | omega | (simp; done) | (simp; omega)) _) | (refine Below.setCell ?_ (by first | omega | (simp; done) | (simp; omega)) _) | refine Below.drew ?_ | (refine Below.trans ?_ (Below.mono (by with_reducible assumption) (by first | omega | (simp; done) | (simp; omega)))))⟩
end Go.Proofs.Ytjhmfljlclajnaa
