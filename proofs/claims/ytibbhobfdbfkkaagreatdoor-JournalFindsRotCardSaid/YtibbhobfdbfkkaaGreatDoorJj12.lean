/- A text of a proof over this seat: walks over the program's functions and the plain laws that they need. -/
import Derived.Test.YtibbhobfdbfkkaaGreatDoorJj11
import Derived.Test.YtibbhobfdbfkkaaGreatDoorJnA
import Derived.Test.YtibbhobfdbfkkaaGreatDoorFwD
import Derived.Test.YtibbhobfdbfkkaaGreatDoorFwB
set_option linter.all false
namespace Go.Proofs.YtibbhobfdbfkkaaGreatDoor
open Go.Fw
theorem fn54 : FnOk Tryz.prog 54 := ⟨_, Tryz.func54, rfl, by kernel_rfl⟩
attribute [local irreducible] Sha.sum Jn.good Jn.hd Jn.lb Jn.cnt Jn.unp Jn.recd Jn.wh Jn.tx9

end Go.Proofs.YtibbhobfdbfkkaaGreatDoor
