/- What arguments read as: from the form's own reading to the plain data. -/
import Derived.Test.YtjhmfljlclajnaaLift
import Derived.Test.YtjhmfljlclajnaaPure
import Derived.Lib.SmallJoins
namespace Go.Proofs.Ytjhmfljlclajnaa
open Go.ChangeShapes Go.WideShapes Go.ChangeAt Go.RowKit Go.Joins Wb
set_option maxRecDepth 100000
section
variable {H : Type} {enc : TypeId × Value → H} {W : World} {base : Nat}
theorem read_ring {v : Value} {d : DataW H} {p : List MemPlace} (hv : Value.okWide Try.prog W .any base 24 v)
    (h : DataW.Trod enc Try.prog W 0 (fun _ => true) true 24 v d p) : ∃ r : Ring, v = r.val := by
  obtain ⟨c0, c1, y0, y1, m, rfl, rfl, rfl, hy0, hy1⟩ := open_agg2 Try.underlying24 (by kernel_rfl) (by kernel_rfl) hv h
  obtain ⟨a, e0, _⟩ := DataW.trod_int Try.underlying3 hy0
  obtain ⟨b, e1, _⟩ := DataW.trod_int Try.underlying3 hy1
  simp at e0 e1
  subst e0 e1
  exact ⟨⟨a, b⟩, rfl⟩
end
end Go.Proofs.Ytjhmfljlclajnaa
