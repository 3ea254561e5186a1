/- A text of a proof over this seat: walks over the program's functions and the plain laws that they need. -/
import Derived.Test.YtlopocmpcmkdkaaDoorSh11
import Derived.Test.YtlopocmpcmkdkaaDoorFwB
set_option linter.all false
namespace Go.Proofs.YtlopocmpcmkdkaaDoor
open Go.Fw
attribute [local irreducible] Sha.sum Sha.keyOf Sha.padK Sha.mac

end Go.Proofs.YtlopocmpcmkdkaaDoor
