/- A text of a proof over this seat: walks over the program's functions and the plain laws that they need. -/
import Derived.Test.YtefjpigmgmbghaaHq13
import Derived.Test.YtefjpigmgmbghaaGuA
import Derived.Test.YtefjpigmgmbghaaFwB
set_option linter.all false
namespace Go.Proofs.Ytefjpigmgmbghaa
open Go.Fw


def Rg (x : Int) : Prop := -9223372036854775808 ≤ x ∧ x ≤ 9223372036854775807
section
variable {xs : List Int} {N : Nat} (hr : ∀ x ∈ xs, Rg x) (hN : N ≤ 1000 ∧ xs.length ≤ N)
include hr hN
end
section
variable {xs : List Bool} {N : Nat} (hN : N ≤ 1000 ∧ xs.length ≤ N)
include hN
end
section
variable {xs : List (List Value)} {N : Nat} (hr : ∀ x ∈ xs, x.length = 2 ∧ ∀ u ∈ x, u.oneCell' = true) (hN : N ≤ 1000 ∧ xs.length ≤ N)
include hr hN
end
end Go.Proofs.Ytefjpigmgmbghaa
