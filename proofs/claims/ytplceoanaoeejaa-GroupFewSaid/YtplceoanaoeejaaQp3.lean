/- A text of a proof over this seat: walks over the program's functions and the plain laws that they need. -/
import Derived.Test.YtplceoanaoeejaaQp2
import Derived.Test.YtplceoanaoeejaaGpA
import Derived.Test.YtplceoanaoeejaaFwC
import Derived.Test.YtplceoanaoeejaaFwB
set_option linter.all false
namespace Go.Proofs.Ytplceoanaoeejaa
open Go.Fw
theorem fn24 : FnOk Try.prog 24 := ⟨_, Try.func24, rfl, by kernel_rfl⟩
/-- What row makes of a half that is being tested. -/
def HlfR (eh : Nat) (xN xS xB cV xD : Value) (base : Int) (σ : Int × List Int × List Int) : Value → List PH → List Res → Prop := fun r zs hs => ∃ uT uA, r = .tuple ([] : List Value).toArray ∧ zs = [] ∧ hs = [.blk eh 78 [xN, xS, xB, vi base, cV, xD, vi (σ.1), uT, uA], .row uT 3 1 (σ.2.1).length ((σ.2.1).map vi), .row uA 3 1 (σ.2.2).length ((σ.2.2).map vi)]
end Go.Proofs.Ytplceoanaoeejaa
