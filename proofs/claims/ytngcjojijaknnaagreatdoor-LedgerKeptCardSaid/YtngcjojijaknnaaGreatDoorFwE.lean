/- walks and plain laws -/
import Derived.Test.YtngcjojijaknnaaGreatDoorFwA
import Derived.Test.YtngcjojijaknnaaGreatDoorFwC
import Derived.Test.YtngcjojijaknnaaGreatDoorFwD
import Derived.Test.YtngcjojijaknnaaGreatDoorDkA
set_option linter.all false
namespace Go.aK
open Go.ChangeShapes Go.WideShapes Go.ChangeAt Go.RowKit
def alk:ej ak.Op where
 size:=5
 rep z o c:=∃ gM,c=[aA o.k,aA o.i,aA o.b,vs o.t,gM]∧(-9223372036854775808≤o.k∧o.k≤9223372036854775807)∧(-9223372036854775808≤o.i∧o.i≤9223372036854775807)∧(-9223372036854775808≤o.b∧o.b≤9223372036854775807)∧o.t.length≤140737488355328∧bo encI z gM o.ps
 mono bj h:=by obtain ⟨gM,h1,ar,aQ,bF,cO,dR⟩:=h;exact ⟨gM,h1,ar,aQ,bF,cO,dR.mono bj⟩
 len h:=by obtain ⟨gM,h1,_⟩:=h;rw [h1];rfl
 one h u hu:=by
  obtain ⟨gM,h1,ar,aQ,bF,cO,dR⟩:=h
  rw [h1] at hu
  simp only [List.mem_cons,List.not_mem_nil,or_false] at hu
  rcases hu with rfl | rfl | rfl | rfl | rfl
  ·rfl
  ·rfl
  ·rfl
  ·rfl
  ·exact mP dR
def vt:ak.Op:=⟨0,0,0,[],[]⟩
section
variable {H:Type}{enc:TypeId×Value→H}{P:Program}{W:World}{t:TypeId}
end
end Go.aK
