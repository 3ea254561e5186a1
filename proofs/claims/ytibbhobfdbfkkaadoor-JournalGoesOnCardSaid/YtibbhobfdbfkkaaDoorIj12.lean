/- A text of a proof over this seat: walks over the program's functions and the plain laws that they need. -/
import Derived.Test.YtibbhobfdbfkkaaDoorIj11
import Derived.Test.YtibbhobfdbfkkaaDoorJnA
import Derived.Test.YtibbhobfdbfkkaaDoorFwD
import Derived.Test.YtibbhobfdbfkkaaDoorFwB
set_option linter.all false
namespace Go.Proofs.YtibbhobfdbfkkaaDoor
open Go.Fw



end Go.Proofs.YtibbhobfdbfkkaaDoor
