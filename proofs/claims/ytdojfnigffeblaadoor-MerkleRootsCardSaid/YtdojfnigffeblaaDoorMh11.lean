/- A text of a proof over this seat: walks over the program's functions and the plain laws that they need. -/
import Derived.Test.YtdojfnigffeblaaDoorMh10
import Derived.Test.YtdojfnigffeblaaDoorShW
import Derived.Test.YtdojfnigffeblaaDoorFwB
set_option linter.all false
namespace Go.Proofs.YtdojfnigffeblaaDoor
open Go.Fw


attribute [local irreducible] Sha.sum Sha.keyOf Sha.padK Sha.mac
end Go.Proofs.YtdojfnigffeblaaDoor
