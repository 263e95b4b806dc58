/- The walks of SameMark and sameDisk, of disks that are alike. -/
import Derived.Test.YtjhmfljlclajnabMarks2
import Derived.Test.YtjhmfljlclajnabRegCall
namespace Go.Proofs.Ytjhmfljlclajnab
open Go.RowKit Wb
set_option linter.unusedVariables false
set_option linter.unusedSimpArgs false
set_option maxRecDepth 100000
set_option maxHeartbeats 4000000

theorem keep_marks (w : World) : Calls Try.prog 14 #[] w fun e w' => e = .returned (.bool true) ∧ Below w.heap.size w w' := by
  have hE := fun w => stamp_Encode mk0 _ w ⟨_, _, rfl, RL.nil _ _, RL.nil _ _, by decide, by decide⟩
  rw [mk0_E, mk0_S] at hE
  unfold mk0 at hE
  dsimp only at hE
  replace hE := hid hE
  have hx : (⟨#[87, 66, 75, 49, 4, 0, 0, 1, 2, 0, 0, 0, 0, 0, 0, 0, 0, 0, 0, 0, 0, 0, 0, 0, 0, 0, 0, 0, 0, 0, 0, 0]⟩ : ByteArray).extract 0 10 = ⟨#[87, 66, 75, 49, 4, 0, 0, 1, 2, 0]⟩ := by
    apply ba_ext; rw [Lib.extract_data]; rfl
  go_enter Try.func14, Try.ntmps14
  go_wp2_with (go_at_call 51; refine (hE.out _).mono ?_; rintro e w1 ⟨rfl, hb1⟩)
  go_ret
  exact ⟨rfl, by repeat (first | exact Below.refl _ _ | with_reducible assumption | (refine allocB ?_ (by first | omega | (simp; done) | (simp; omega)) _) | (refine Below.setCell ?_ (by first | omega | (simp; done) | (simp; omega)) _) | refine Below.drew ?_ | (refine Below.trans ?_ (Below.mono (by with_reducible assumption) (by first | omega | (simp; done) | (simp; omega)))))⟩

end Go.Proofs.Ytjhmfljlclajnab
