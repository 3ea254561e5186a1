/- A text of a proof over this seat: walks over the program's functions and the plain laws that they need. -/
import Derived.Test.YtplceoanaoeejaaQp3
import Derived.Test.YtplceoanaoeejaaGpA
import Derived.Test.YtplceoanaoeejaaFwC
import Derived.Test.YtplceoanaoeejaaFwB
set_option linter.all false
namespace Go.Proofs.Ytplceoanaoeejaa
open Go.Fw


/-- Two lists and an error. -/
def TwoR (L M : List Int) (e : Int) : Value → List PH → List Res → Prop := fun r zs hs => ∃ v u z, Sl encI z v L ∧ Sl encI z u M ∧ r = .tuple #[v, u, vi e] ∧ zs = [z] ∧ hs = []
theorem two_of {L L' M M' : List Int} {e e' : Int} {r : Value} {zs : List PH} {hs : List Res} (h : TwoR L M e r zs hs) (h1 : L = L') (h2 : M = M') (h3 : e = e') : TwoR L' M' e' r zs hs := by subst h1; subst h2; subst h3; exact h

end Go.Proofs.Ytplceoanaoeejaa
