/- A text of a proof over this seat: walks over the program's functions and the plain laws that they need. -/
import Derived.Test.YtngcjojijaknnaaGreatDoorLl13
import Derived.Test.YtngcjojijaknnaaGreatDoorLgA
import Derived.Test.YtngcjojijaknnaaGreatDoorFwB
set_option linter.all false
namespace Go.Proofs.YtngcjojijaknnaaGreatDoor
open Go.Fw
theorem fn25 : FnOk Tryz.prog 25 := ⟨_, Tryz.func25, rfl, by kernel_rfl⟩
attribute [local irreducible] Wi.int Wi.bytes Wi.getInt Wi.getBytes Sha.sum Jn.good Jn.hd Jn.lb Jn.cnt Jn.unp Jn.recd Jn.app Jn.opn Lg.dec Lg.enc Dk.new Lg.add Lg.taken Gu.arnd Dk.rot Dk.read

end Go.Proofs.YtngcjojijaknnaaGreatDoor
