/- A text of a proof over this seat: walks over the program's functions and the plain laws that they need. -/
import Derived.Test.YtefjpigmgmbghaaHg3
import Derived.Test.YtefjpigmgmbghaaHpA
import Derived.Test.YtefjpigmgmbghaaFwD
import Derived.Test.YtefjpigmgmbghaaFwB
set_option linter.all false
namespace Go.Proofs.Ytefjpigmgmbghaa
open Go.Fw
/-- Some path. -/
def PthR (n : Nat) (r : Value) (zs : List PH) (hs : List Res) : Prop :=
 ∃ (v : Value) (p : List Int) (e : Int) (z : PH), r = .tuple [v, vi e].toArray ∧ Sl encI z v p ∧ p.length ≤ n + 1 ∧ zs = [z] ∧ hs = []

end Go.Proofs.Ytefjpigmgmbghaa
