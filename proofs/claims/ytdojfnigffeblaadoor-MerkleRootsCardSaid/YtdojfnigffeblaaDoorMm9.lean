/- A text of a proof over this seat: walks over the program's functions and the plain laws that they need. -/
import Derived.Test.YtdojfnigffeblaaDoorMm8
import Derived.Test.YtdojfnigffeblaaDoorMkA
import Derived.Test.YtdojfnigffeblaaDoorFwD
import Derived.Test.YtdojfnigffeblaaDoorGuA
import Derived.Test.YtdojfnigffeblaaDoorFwB
set_option linter.all false
namespace Go.Proofs.YtdojfnigffeblaaDoor
open Go.Fw
theorem fn13 : FnOk Tryd.prog 13 := ⟨_, Tryd.func13, rfl, by kernel_rfl⟩
theorem fn18 : FnOk Tryd.prog 18 := ⟨_, Tryd.func18, rfl, by kernel_rfl⟩
attribute [local irreducible] Sha.sum Sha.mac Sha.ofD Wi.int Wi.ints Wi.bytes Sha.inp Mk.half Lib.compareBytes Mk.frm Mk.rootD

/-- A proof whose leaves are copied. -/
def PmR (q : Mk.Pf) (sv : Value) : Value → List PH → List Res → Prop := fun r zs hs => ∃ lv z, r = .agg [vi q.fst, vi q.sz, lv, sv].toArray ∧ Sl encF z lv q.lv ∧ zs = [z] ∧ hs = []

end Go.Proofs.YtdojfnigffeblaaDoor
