/- A text of a proof over this seat: walks over the program's functions and the plain laws that they need. -/
import Derived.Test.YtibbhobfdbfkkaaGreatDoorJj8
import Derived.Test.YtibbhobfdbfkkaaGreatDoorJnA
import Derived.Test.YtibbhobfdbfkkaaGreatDoorFwD
import Derived.Test.YtibbhobfdbfkkaaGreatDoorFwB
set_option linter.all false
namespace Go.Proofs.YtibbhobfdbfkkaaGreatDoor
open Go.Fw
theorem ty28 : Tf Tryz.prog 28 (.pointer 80) 1 8 (Value.pointer none) := ⟨Tryz.underlying28, by kernel_rfl⟩
theorem ty66 : Tf Tryz.prog 66 (.struct #[⟨ "D", 28, 0, false, "", "", 0⟩, ⟨ "Nums", 51, 1, false, "", "", 8⟩, ⟨ "L", 22, 2, false, "", "", 32⟩, ⟨ "BadOnes", 51, 3, false, "", "", 56⟩, ⟨ "Next", 3, 4, false, "", "", 80⟩, ⟨ "End", 3, 5, false, "", "", 88⟩, ⟨ "Closed", 4, 6, false, "", "", 96⟩]) 7 104 (.agg ([Value.pointer none] ++ [Value.slice none 0 0, Value.slice none 0 0, Value.slice none 0 0] ++ [Value.int .i64 0, Value.int .i64 0] ++ [Value.bool false]).toArray) := ⟨Tryz.underlying66, by kernel_rfl⟩
theorem fn52 : FnOk Tryz.prog 52 := ⟨_, Tryz.func52, rfl, by kernel_rfl⟩
theorem fn57 : FnOk Tryz.prog 57 := ⟨_, Tryz.func57, rfl, by kernel_rfl⟩

abbrev HJ := Jn.ROk 66 3 9

attribute [local irreducible] Sha.sum Jn.good Jn.hd Jn.lb Jn.cnt

end Go.Proofs.YtibbhobfdbfkkaaGreatDoor
