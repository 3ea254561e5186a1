/- A text of a proof over this seat: walks over the program's functions and the plain laws that they need. -/
import Derived.Test.YtlopocmpcmkdkaaDoorSh10
import Derived.Test.YtlopocmpcmkdkaaDoorShW
import Derived.Test.YtlopocmpcmkdkaaDoorFwB
set_option linter.all false
namespace Go.Proofs.YtlopocmpcmkdkaaDoor
open Go.Fw
theorem fn66 : FnOk Tryd.prog 66 := ⟨_, Tryd.func66, rfl, by kernel_rfl⟩

attribute [local irreducible] Sha.sum Sha.keyOf Sha.padK Sha.mac

end Go.Proofs.YtlopocmpcmkdkaaDoor
