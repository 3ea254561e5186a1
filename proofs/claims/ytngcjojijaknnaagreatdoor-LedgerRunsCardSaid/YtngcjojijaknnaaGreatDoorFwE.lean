/- walks and plain laws -/
import Derived.Test.YtngcjojijaknnaaGreatDoorFwC
import Derived.Test.YtngcjojijaknnaaGreatDoorFwD
import Derived.Test.YtngcjojijaknnaaGreatDoorDkA
set_option linter.all false
namespace Go.aJ
open Go.ChangeShapes Go.WideShapes Go.ChangeAt Go.RowKit
def aiZ:dO ao.Op where
 size:=5
 rep z o c:=∃ gj,c=[az o.k,az o.i,az o.b,vs o.t,gj]∧(-9223372036854775808≤o.k∧o.k≤9223372036854775807)∧(-9223372036854775808≤o.i∧o.i≤9223372036854775807)∧(-9223372036854775808≤o.b∧o.b≤9223372036854775807)∧o.t.length≤140737488355328∧bg encI z gj o.ps
 mono bj h:=by obtain ⟨gj,h1,aq,aQ,bH,cN,dq⟩:=h;exact ⟨gj,h1,aq,aQ,bH,cN,dq.mono bj⟩
 len h:=by obtain ⟨gj,h1,_⟩:=h;rw [h1];rfl
 one h u hu:=by
  obtain ⟨gj,h1,aq,aQ,bH,cN,dq⟩:=h
  rw [h1] at hu
  simp only [List.mem_cons,List.not_mem_nil,or_false] at hu
  rcases hu with rfl | rfl | rfl | rfl | rfl
  ·rfl
  ·rfl
  ·rfl
  ·rfl
  ·exact mL dq
def uf:ao.Op:=⟨0,0,0,[],[]⟩
section
variable {H:Type}{enc:TypeId×Value→H}{P:Program}{W:World}{t:TypeId}
end
end Go.aJ
