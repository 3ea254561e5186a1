/- A text of a proof over this seat: walks over the program's functions and the plain laws that they need. -/
import Derived.Test.YtngcjojijaknnaaGreatDoorLj8
import Derived.Test.YtngcjojijaknnaaGreatDoorJnA
import Derived.Test.YtngcjojijaknnaaGreatDoorFwD
import Derived.Test.YtngcjojijaknnaaGreatDoorFwB
set_option linter.all false
namespace Go.Proofs.YtngcjojijaknnaaGreatDoor
open Go.Fw
abbrev HJ := Jn.ROk 207 3 9

attribute [local irreducible] Sha.sum Jn.good Jn.hd Jn.lb Jn.cnt

end Go.Proofs.YtngcjojijaknnaaGreatDoor
