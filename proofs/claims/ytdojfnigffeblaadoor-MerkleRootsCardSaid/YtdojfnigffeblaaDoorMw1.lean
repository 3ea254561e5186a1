/- A text of a proof over this seat: walks over the program's functions and the plain laws that they need. -/
import Derived.Test.YtdojfnigffeblaaDoorMh16
import Derived.Test.YtdojfnigffeblaaDoorShW
import Derived.Test.YtdojfnigffeblaaDoorFwB
set_option linter.all false
namespace Go.Proofs.YtdojfnigffeblaaDoor
open Go.Fw
theorem ty22 : Tf Tryd.prog 22 (.slice 3) 1 24 (Value.slice none 0 0) := ⟨Tryd.underlying22, by kernel_rfl⟩
theorem ty48 : Tf Tryd.prog 48 (.slice 29) 1 24 (Value.slice none 0 0) := ⟨Tryd.underlying48, by kernel_rfl⟩

attribute [local irreducible] Wi.int Wi.bytes Wi.ints Wi.strs Wi.dgs Ls.encT

end Go.Proofs.YtdojfnigffeblaaDoor
