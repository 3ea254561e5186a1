/- walks and plain laws -/
import Derived.Test.YtngcjojijaknnaaGreatDoorJnA
import Derived.Test.YtngcjojijaknnaaGreatDoorFwG
set_option linter.all false
section
namespace aj
open Go Go.aJ
def pR:dn:=⟨[],[],[],1,0,false⟩
theorem acF{S:ao.aX}(U:Still S)(h:∀ j,j<S.s.length→fR S j=z64):eo S=pR:=B9 U h
end aj
end
section
namespace aj
open Go Go.aJ
def ai7(os:List DK):Bool:=(os.all fun x=>decide (x.ps.length≤200))&&decide ((os.length:Int)≤30)
end aj
end
section
namespace aj
open Go Go.aJ
instance (T:List (List UInt8)) (s:List UInt8):Decidable (LG T s):=by unfold LG;infer_instance
theorem KC{n:Nat}(h1:1≤n)(aq:n≤4096):qc (ao.new n) pR:=by
 have:=UW h1 aq
 rwa [acF CN fun j a6=>GU (by rw [ao.vR] at a6;exact a6)] at this
theorem Dq.wf{xg sU xh:TypeId}{b pd:Nat}{J:dn}{b8 cL eL eS:av}(h:Dq xg sU xh b pd J b8 cL eL eS):kP J:=by
 obtain ⟨_,_,_,h,_⟩:=h
 exact h
theorem CM(J:dn)(t:List UInt8):¬ J.tx=J.tx++[t]:=fun h=>by
 have:=congrArg List.length h
 rw [List.length_append] at this
 simp at this
end aj
end
