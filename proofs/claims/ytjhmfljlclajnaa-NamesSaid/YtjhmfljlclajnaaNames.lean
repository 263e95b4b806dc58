/- The walk of Names: the numbers are the given ones. -/
import Derived.Test.YtjhmfljlclajnaaRows
import Derived.Test.YtjhmfljlclajnaaBase
namespace Go.Proofs.Ytjhmfljlclajnaa
open Go.RowKit Wb
theorem law_Names (w : World) :
    Calls Try.prog 3 #[] w fun e w' => e = .returned (.bool true) ∧ Below w.heap.size w w' := by
  go_enter Try.func3, Try.ntmps3
  go_wp2
  go_ret
  exact ⟨ret_b rfl, by repeat (first | exact Below.refl _ _ | assumption | (refine allocB ?_ (by first | omega | (simp; done) | (simp; omega)) _) | (refine Below.setCell ?_ (by first | omega | (simp; done) | (simp; omega)) _) | refine Below.drew ?_ | (refine Below.trans ?_ (Below.mono (by assumption) (by first | omega | (simp; done) | (simp; omega)))))⟩
end Go.Proofs.Ytjhmfljlclajnaa
