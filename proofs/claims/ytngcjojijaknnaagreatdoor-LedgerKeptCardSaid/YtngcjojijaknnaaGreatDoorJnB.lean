/- walks and plain laws -/
import Derived.Test.YtngcjojijaknnaaGreatDoorFwA
import Derived.Test.YtngcjojijaknnaaGreatDoorJnA
import Derived.Test.YtngcjojijaknnaaGreatDoorFwG
set_option linter.all false
section
namespace aj
open Go Go.aK
def qC:dC:=⟨[],[],[],1,0,false⟩
theorem aeP{S:ak.aX}(U:Still S)(h:∀ j,j<S.s.length→dP S j=z64):bW S=qC:=Dy U h
end aj
end
section
namespace aj
open Go Go.aK
def alv(os:List E9):Bool:=(os.all fun x=>decide (x.ps.length≤200))&&decide ((os.length:Int)≤30)
end aj
end
section
namespace aj
open Go Go.aK
instance (T:List (List UInt8)) (s:List UInt8):Decidable (Nw T s):=by unfold Nw;infer_instance
theorem Mi{n:Nat}(h1:1≤n)(ar:n≤4096):q1 (ak.new n) qC:=by
 have:=W2 h1 ar
 rwa [aeP D7 fun j aV=>Iw (by rw [ak.xk] at aV;exact aV)] at this
theorem EM.wf{yA uj yB:TypeId}{b pd:Nat}{J:dC}{cm cR eW e2:aC}(h:EM yA uj yB b pd J cm cR eW e2):lu J:=by
 obtain ⟨_,_,_,h,_⟩:=h
 exact h
theorem D6(J:dC)(t:List UInt8):¬ J.tx=J.tx++[t]:=fun h=>by
 have:=congrArg List.length h
 rw [List.length_append] at this
 simp at this
end aj
end
