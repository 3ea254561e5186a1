/- A text of a proof over this seat: walks over the program's functions and the plain laws that they need. -/
import Derived.Test.YtlopocmpcmkdkaaDoorFwA
set_option linter.all false
namespace Go.Fw
namespace Ls
theorem getD_some {α : Type} (d : α) {l : List α} {i : Nat} (h : i < l.length) : l[i]? = some (l.getD i d) := by
  rw [List.getD_eq_getElem?_getD, List.getElem?_eq_getElem h]; rfl
end Ls
end Go.Fw
