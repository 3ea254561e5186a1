/- A text of a proof over this seat: walks over the program's functions and the plain laws that they need. -/
import Derived.Test.YtlopocmpcmkdkaaDoorSw2
import Derived.Test.YtlopocmpcmkdkaaDoorShW
import Derived.Test.YtlopocmpcmkdkaaDoorFwB
set_option linter.all false
namespace Go.Proofs.YtlopocmpcmkdkaaDoor
open Go.Fw
attribute [local irreducible] Wi.int Wi.bytes Wi.ints Wi.strs Wi.dgs Ls.encT Wi.getInt Wi.valBE Wi.vj

end Go.Proofs.YtlopocmpcmkdkaaDoor
