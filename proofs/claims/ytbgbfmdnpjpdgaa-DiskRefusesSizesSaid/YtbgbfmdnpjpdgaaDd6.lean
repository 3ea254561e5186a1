/- A text of a proof over this seat: walks over the program's functions and the plain laws that they need. -/
import Derived.Test.YtbgbfmdnpjpdgaaDd5
import Derived.Test.YtbgbfmdnpjpdgaaDkA
import Derived.Test.YtbgbfmdnpjpdgaaFwB
set_option linter.all false
namespace Go.Proofs.Ytbgbfmdnpjpdgaa
open Go.Fw
abbrev RRB := Dk.RB 57
abbrev RRW := Dk.RW 54
abbrev RRD := Dk.RDR 57 54
abbrev RRDi := Dk.RDRw 57 54 3
abbrev RRDs := Dk.RDRw 57 54 9

end Go.Proofs.Ytbgbfmdnpjpdgaa
