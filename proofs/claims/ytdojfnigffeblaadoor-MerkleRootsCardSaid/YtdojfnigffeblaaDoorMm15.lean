/- A text of a proof over this seat: walks over the program's functions and the plain laws that they need. -/
import Derived.Test.YtdojfnigffeblaaDoorMm14
import Derived.Test.YtdojfnigffeblaaDoorMkA
import Derived.Test.YtdojfnigffeblaaDoorFwD
import Derived.Test.YtdojfnigffeblaaDoorFwB
set_option linter.all false
namespace Go.Proofs.YtdojfnigffeblaaDoor
open Go.Fw
attribute [local irreducible] Sha.sum Sha.mac Sha.ofD Wi.int Wi.ints Wi.bytes Sha.inp Mk.half Lib.compareBytes Mk.frm Mk.rootD Mk.provE Mk.rangE Mk.rootE Mk.chkE Mk.chkR Mk.shown Mk.leavesL Mk.keyL Mk.keyB Mk.hasI Mk.inside Mk.bent Mk.coll Mk.vE Mk.rowD Gu.arnd

end Go.Proofs.YtdojfnigffeblaaDoor
