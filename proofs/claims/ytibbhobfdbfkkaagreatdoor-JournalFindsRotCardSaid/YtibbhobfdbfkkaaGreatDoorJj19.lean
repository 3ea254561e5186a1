/- A text of a proof over this seat: walks over the program's functions and the plain laws that they need. -/
import Derived.Test.YtibbhobfdbfkkaaGreatDoorJj18
import Derived.Test.YtibbhobfdbfkkaaGreatDoorJnB
import Derived.Test.YtibbhobfdbfkkaaGreatDoorFwB
set_option linter.all false
namespace Go.Proofs.YtibbhobfdbfkkaaGreatDoor
open Go.Fw
theorem fn15 : FnOk Tryz.prog 15 := ⟨_, Tryz.func15, rfl, by kernel_rfl⟩
theorem fn18 : FnOk Tryz.prog 18 := ⟨_, Tryz.func18, rfl, by kernel_rfl⟩

attribute [local irreducible] Sha.sum Jn.good Jn.hd Jn.lb Jn.cnt Jn.unp Jn.pack Jn.opn Jn.app

end Go.Proofs.YtibbhobfdbfkkaaGreatDoor
