/- What arguments read as: from the form's own reading to the plain data. -/
import Derived.Test.YtjhmfljlclajnabLift
import Derived.Test.YtjhmfljlclajnabPure
import Derived.Lib.SmallJoins
namespace Go.Proofs.Ytjhmfljlclajnab
open Go.ChangeShapes Go.WideShapes Go.ChangeAt Go.RowKit Go.Joins Wb
set_option maxRecDepth 100000
section
variable {H : Type} {enc : TypeId × Value → H} {W : World} {base : Nat}
end
end Go.Proofs.Ytjhmfljlclajnab
