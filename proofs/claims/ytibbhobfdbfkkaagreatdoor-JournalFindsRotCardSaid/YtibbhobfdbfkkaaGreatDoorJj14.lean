/- A text of a proof over this seat: walks over the program's functions and the plain laws that they need. -/
import Derived.Test.YtibbhobfdbfkkaaGreatDoorJj13
import Derived.Test.YtibbhobfdbfkkaaGreatDoorFwG
import Derived.Test.YtibbhobfdbfkkaaGreatDoorJnA
import Derived.Test.YtibbhobfdbfkkaaGreatDoorJnB
import Derived.Test.YtibbhobfdbfkkaaGreatDoorFwB
set_option linter.all false
section
namespace Go.Proofs.YtibbhobfdbfkkaaGreatDoor
open Go.Fw



end Go.Proofs.YtibbhobfdbfkkaaGreatDoor
end

section
namespace Go.Proofs.YtibbhobfdbfkkaaGreatDoor
open Go.Fw
theorem fn7 : FnOk Tryz.prog 7 := ⟨_, Tryz.func7, rfl, by kernel_rfl⟩
attribute [local irreducible] Sha.sum Jn.good Jn.hd Jn.lb Jn.cnt Jn.unp Jn.pack Jn.opn Jn.app

end Go.Proofs.YtibbhobfdbfkkaaGreatDoor
end

section
namespace Go.Proofs.YtibbhobfdbfkkaaGreatDoor
open Go.Fw
theorem ty40 : Tf Tryz.prog 40 (.slice 56) 1 24 (Value.slice none 0 0) := ⟨Tryz.underlying40, by kernel_rfl⟩
theorem fn19 : FnOk Tryz.prog 19 := ⟨_, Tryz.func19, rfl, by kernel_rfl⟩
theorem fn27 : FnOk Tryz.prog 27 := ⟨_, Tryz.func27, rfl, by kernel_rfl⟩
attribute [local irreducible] Sha.sum Jn.good Jn.hd Jn.lb Jn.cnt Jn.unp Jn.pack Jn.opn Jn.app

end Go.Proofs.YtibbhobfdbfkkaaGreatDoor
end

section
namespace Go.Proofs.YtibbhobfdbfkkaaGreatDoor
open Go.Fw



end Go.Proofs.YtibbhobfdbfkkaaGreatDoor
end
