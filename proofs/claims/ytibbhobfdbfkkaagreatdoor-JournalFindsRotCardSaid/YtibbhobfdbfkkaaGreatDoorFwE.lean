/- A text of a proof over this seat: walks over the program's functions and the plain laws that they need. -/
import Derived.Test.YtibbhobfdbfkkaaGreatDoorDkA
import Derived.Test.YtibbhobfdbfkkaaGreatDoorFwC
import Derived.Test.YtibbhobfdbfkkaaGreatDoorFwD
set_option linter.all false
/-! operations of a script, as elements and as arguments -/
namespace Go.Fw
open Go.ChangeShapes Go.WideShapes Go.ChangeAt Go.RowKit
def encO : Enc Dk.Op where
  size := 5
  rep z o c := ∃ pv, c = [vi o.k, vi o.i, vi o.b, vs o.t, pv] ∧ (-9223372036854775808 ≤ o.k ∧ o.k ≤ 9223372036854775807) ∧ (-9223372036854775808 ≤ o.i ∧ o.i ≤ 9223372036854775807) ∧ (-9223372036854775808 ≤ o.b ∧ o.b ≤ 9223372036854775807) ∧ o.t.length ≤ 140737488355328 ∧ Sl encI z pv o.ps
  mono hz h := by obtain ⟨pv, h1, h2, h3, h4, h5, h6⟩ := h; exact ⟨pv, h1, h2, h3, h4, h5, h6.mono hz⟩
  len h := by obtain ⟨pv, h1, _⟩ := h; rw [h1]; rfl
  one h u hu := by
    obtain ⟨pv, h1, h2, h3, h4, h5, h6⟩ := h
    rw [h1] at hu
    simp only [List.mem_cons, List.not_mem_nil, or_false] at hu
    rcases hu with rfl | rfl | rfl | rfl | rfl
    · rfl
    · rfl
    · rfl
    · rfl
    · exact sl_one' h6
def o0 : Dk.Op := ⟨0, 0, 0, [], []⟩
section
variable {H : Type} {enc : TypeId × Value → H} {P : Program} {W : World} {t : TypeId}
end
end Go.Fw
