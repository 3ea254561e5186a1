/- A text of a proof over this seat: walks over the program's functions and the plain laws that they need. -/
import Derived.Test.YtefjpigmgmbghaaHu11
import Derived.Test.YtefjpigmgmbghaaHpA
import Derived.Test.YtefjpigmgmbghaaFwD
import Derived.Test.YtefjpigmgmbghaaFwC
import Derived.Test.YtefjpigmgmbghaaFwB
set_option linter.all false
namespace Go.Proofs.Ytefjpigmgmbghaa
open Go.Fw
/-- What is known. -/
def MkR (x : Hu.KP) (r : Value) (zs : List PH) (hs : List Res) : Prop :=
 ∃ (kv mv : Value) (z : PH), r = .agg [kv, mv].toArray ∧ Sl (encA 16) z kv x.1 ∧ Sl encI z mv x.2 ∧ zs = [z] ∧ hs = []
/-- Something known. -/
def OdR (r : Value) (zs : List PH) (hs : List Res) : Prop :=
 ∃ (kv mv : Value) (K : List (List UInt8)) (M : List Int) (z : PH), r = .agg [kv, mv].toArray ∧ Sl (encA 16) z kv K ∧ Sl encI z mv M ∧ zs = [z] ∧ hs = []
section
variable {ms : List Int} (hr : ∀ x ∈ ms, -9223372036854775808 ≤ x ∧ x ≤ 9223372036854775807) (hb : ms.length ≤ 1000)
include hr hb
end
section
variable {ks : List (List UInt8)} (hr : ∀ x ∈ ks, x.length = 16) (hb : ks.length ≤ 1000)
include hr hb
end
end Go.Proofs.Ytefjpigmgmbghaa
