/- A text of a proof over this seat: walks over the program's functions and the plain laws that they need. -/
import Derived.Test.YtibbhobfdbfkkaaGreatDoorFwG
set_option linter.all false
/-! few steps -/
namespace Jn
open Go Go.Fw
def fewB (os : List Stp) : Bool := (os.all fun x => decide (x.ps.length ≤ 200)) && decide ((os.length : Int) ≤ 30)
theorem few_no {os : List Stp} {j : Nat} (hj : j < os.length) (h : ¬ (os.getD j st0).ps.length ≤ 200) : fewB os = false := by
  unfold fewB
  have : (os.all fun x => decide (x.ps.length ≤ 200)) = false := by
    rw [List.all_eq_false]
    refine ⟨os.getD j st0, ?_, by simpa using h⟩
    rw [List.getD_eq_getElem?_getD, List.getElem?_eq_getElem hj]; exact List.getElem_mem hj
  rw [this]; rfl
theorem few_yes {os : List Stp} (h : ∀ j, j < os.length → (os.getD j st0).ps.length ≤ 200) : fewB os = decide ((os.length : Int) ≤ 30) := by
  unfold fewB
  have : (os.all fun x => decide (x.ps.length ≤ 200)) = true := by
    rw [List.all_eq_true]
    intro x hx
    obtain ⟨j, hj, rfl⟩ := List.getElem_of_mem hx
    have := h j hj
    rw [List.getD_eq_getElem?_getD, List.getElem?_eq_getElem hj] at this
    simpa using this
  rw [this, Bool.true_and]
end Jn
