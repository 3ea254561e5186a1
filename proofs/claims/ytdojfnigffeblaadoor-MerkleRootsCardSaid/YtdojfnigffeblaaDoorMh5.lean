/- A text of a proof over this seat: walks over the program's functions and the plain laws that they need. -/
import Derived.Test.YtdojfnigffeblaaDoorMh4
import Derived.Test.YtdojfnigffeblaaDoorFwB
set_option linter.all false
namespace Go.Proofs.YtdojfnigffeblaaDoor
open Go.Fw


attribute [local irreducible] Sha.adds Sha.fin Sha.sum Sha.padK Sha.comp Sha.mac Sha.keyOf Sha.sch Sha.rounds Sha.outB
end Go.Proofs.YtdojfnigffeblaaDoor
