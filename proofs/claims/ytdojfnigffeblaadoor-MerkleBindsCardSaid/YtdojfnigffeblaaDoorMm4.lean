/- A text of a proof over this seat: walks over the program's functions and the plain laws that they need. -/
import Derived.Test.YtdojfnigffeblaaDoorMm3
import Derived.Test.YtdojfnigffeblaaDoorMkA
import Derived.Test.YtdojfnigffeblaaDoorFwC
import Derived.Test.YtdojfnigffeblaaDoorFwB
set_option linter.all false
namespace Go.Proofs.YtdojfnigffeblaaDoor
open Go.Fw
theorem ty54 : Tf Tryd.prog 54 (.struct #[⟨ "First", 3, 0, false, "", "", 0⟩, ⟨ "Size", 3, 1, false, "", "", 8⟩, ⟨ "Leaves", 24, 2, false, "", "", 16⟩, ⟨ "Sides", 48, 3, false, "", "", 40⟩]) 4 64 (.agg ([Value.int .i64 0, Value.int .i64 0] ++ [Value.slice none 0 0, Value.slice none 0 0]).toArray) := ⟨Tryd.underlying54, by kernel_rfl⟩
theorem fn52 : FnOk Tryd.prog 52 := ⟨_, Tryd.func52, rfl, by kernel_rfl⟩
attribute [local irreducible] Sha.sum Sha.mac Sha.ofD Wi.int Wi.ints Wi.bytes Sha.inp Mk.half Lib.compareBytes

end Go.Proofs.YtdojfnigffeblaaDoor
