/- A text of a proof over this seat: walks over the program's functions and the plain laws that they need. -/
import Derived.Test.YtibbhobfdbfkkaaDoorIj13
import Derived.Test.YtibbhobfdbfkkaaDoorFwG
import Derived.Test.YtibbhobfdbfkkaaDoorFwB
set_option linter.all false
namespace Go.Proofs.YtibbhobfdbfkkaaDoor
open Go.Fw
theorem fn5 : FnOk Tryd.prog 5 := ⟨_, Tryd.func5, rfl, by kernel_rfl⟩
attribute [local irreducible] Sha.sum Jn.good Jn.hd Jn.lb Jn.cnt Jn.unp Jn.pack

end Go.Proofs.YtibbhobfdbfkkaaDoor
