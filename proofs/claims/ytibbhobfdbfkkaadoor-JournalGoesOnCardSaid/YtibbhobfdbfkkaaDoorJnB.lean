/- A text of a proof over this seat: walks over the program's functions and the plain laws that they need. -/
import Derived.Test.YtibbhobfdbfkkaaDoorFwG
import Derived.Test.YtibbhobfdbfkkaaDoorJnA
set_option linter.all false
section
/-! few steps -/
namespace Jn
open Go Go.Fw
def fewB (os : List Stp) : Bool := (os.all fun x => decide (x.ps.length ≤ 200)) && decide ((os.length : Int) ≤ 30)
end Jn
end

section
/-! an empty journal -/
namespace Jn
open Go Go.Fw
def jnil : JS := ⟨[], [], [], 1, 0, false⟩
theorem opn_nil {S : Dk.Dsk} (hS : Still S) (h : ∀ j, j < S.s.length → txa S j = z64) : opn S = jnil := opn_blank hS h
theorem gon_nil {S : Dk.Dsk} (hO : Dk.Ok S) (hS : Still S) (h : ∀ j, j < S.s.length → txa S j = z64) : Gon S jnil := by
  have := gon_start hO hS h
  rwa [opn_nil hS h] at this
end Jn
end
