/- A text of a proof over this seat: walks over the program's functions and the plain laws that they need. -/
import Derived.Test.YtefjpigmgmbghaaHg14
import Derived.Test.YtefjpigmgmbghaaHpA
import Derived.Test.YtefjpigmgmbghaaFwD
import Derived.Test.YtefjpigmgmbghaaFwB
set_option linter.all false
namespace Go.Proofs.Ytefjpigmgmbghaa
open Go.Fw
theorem fn10 : FnOk Try.prog 10 := ⟨_, Try.func10, rfl, by kernel_rfl⟩
theorem fn11 : FnOk Try.prog 11 := ⟨_, Try.func11, rfl, by kernel_rfl⟩
theorem fn13 : FnOk Try.prog 13 := ⟨_, Try.func13, rfl, by kernel_rfl⟩
theorem fn17 : FnOk Try.prog 17 := ⟨_, Try.func17, rfl, by kernel_rfl⟩
theorem fn25 : FnOk Try.prog 25 := ⟨_, Try.func25, rfl, by kernel_rfl⟩

end Go.Proofs.Ytefjpigmgmbghaa
