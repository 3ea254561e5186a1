/- A text of a proof over this seat: walks over the program's functions and the plain laws that they need. -/
import Derived.Test.YtlopocmpcmkdkaaDoorSh8
import Derived.Test.YtlopocmpcmkdkaaDoorShW
import Derived.Test.YtlopocmpcmkdkaaDoorFwB
set_option linter.all false
namespace Go.Proofs.YtlopocmpcmkdkaaDoor
open Go.Fw
end Go.Proofs.YtlopocmpcmkdkaaDoor
