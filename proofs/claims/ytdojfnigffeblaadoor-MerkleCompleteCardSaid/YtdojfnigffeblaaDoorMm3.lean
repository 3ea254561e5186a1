/- A text of a proof over this seat: walks over the program's functions and the plain laws that they need. -/
import Derived.Test.YtdojfnigffeblaaDoorMm2
import Derived.Test.YtdojfnigffeblaaDoorMkA
import Derived.Test.YtdojfnigffeblaaDoorFwB
set_option linter.all false
namespace Go.Proofs.YtdojfnigffeblaaDoor
open Go.Fw
theorem ty4 : Tf Tryd.prog 4 .bool 1 1 (Value.bool false) := ⟨Tryd.underlying4, by kernel_rfl⟩
attribute [local irreducible] Sha.sum Sha.mac Sha.ofD Wi.int Wi.ints Wi.bytes Sha.inp Mk.half Lib.compareBytes

/-- What is made of a tree that is lent. -/
def TrR (e : Nat) (sv : Value) (σ : Mk.Dg × Mk.Tx × Nat × Bool) : Value → List PH → List Res → Prop := fun r zs hs => ∃ tv, r = .agg (σ.1.map vb).toArray ∧ zs = [] ∧ hs = [.blk e 102 [tv, sv, vi ((σ.2.2.1 : Nat) : Int), vt (σ.2.2.2)], .row tv 9 1 (σ.2.1).length ((σ.2.1).map vs)]
end Go.Proofs.YtdojfnigffeblaaDoor
