/- A text of a proof over this seat: walks over the program's functions and the plain laws that they need. -/
import Derived.Test.YtibbhobfdbfkkaaGreatDoorJj13
import Derived.Test.YtibbhobfdbfkkaaGreatDoorFwG
import Derived.Test.YtibbhobfdbfkkaaGreatDoorFwB
set_option linter.all false
namespace Go.Proofs.YtibbhobfdbfkkaaGreatDoor
open Go.Fw



end Go.Proofs.YtibbhobfdbfkkaaGreatDoor
