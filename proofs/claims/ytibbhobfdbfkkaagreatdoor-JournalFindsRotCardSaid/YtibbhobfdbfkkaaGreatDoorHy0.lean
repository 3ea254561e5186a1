/- The sums of the sectors whose payload begins with a byte from 0 to 15: no two that are alike but for one bit of the record's number have the same second word. No condition. -/
import Derived.Test.YtibbhobfdbfkkaaGreatDoorHx1
set_option linter.all false
namespace Hx
theorem great0 : Nat.ble (Nat.shiftLeft 1 268000000) 5 = false := by decide +kernel
theorem ev0 : T 0 11 := by
  have h := great0
  clear h
  repeat' (first | apply T.leaf | apply T.node)
  all_goals decide +kernel
theorem ev1 : T 1 11 := by
  repeat' (first | apply T.leaf | apply T.node)
  all_goals decide +kernel
theorem ev2 : T 2 11 := by
  repeat' (first | apply T.leaf | apply T.node)
  all_goals decide +kernel
theorem ev3 : T 3 11 := by
  repeat' (first | apply T.leaf | apply T.node)
  all_goals decide +kernel
theorem ev4 : T 4 11 := by
  repeat' (first | apply T.leaf | apply T.node)
  all_goals decide +kernel
theorem ev5 : T 5 11 := by
  repeat' (first | apply T.leaf | apply T.node)
  all_goals decide +kernel
theorem ev6 : T 6 11 := by
  repeat' (first | apply T.leaf | apply T.node)
  all_goals decide +kernel
theorem ev7 : T 7 11 := by
  repeat' (first | apply T.leaf | apply T.node)
  all_goals decide +kernel
theorem ev8 : T 8 11 := by
  repeat' (first | apply T.leaf | apply T.node)
  all_goals decide +kernel
theorem ev9 : T 9 11 := by
  repeat' (first | apply T.leaf | apply T.node)
  all_goals decide +kernel
theorem ev10 : T 10 11 := by
  repeat' (first | apply T.leaf | apply T.node)
  all_goals decide +kernel
theorem ev11 : T 11 11 := by
  repeat' (first | apply T.leaf | apply T.node)
  all_goals decide +kernel
theorem ev12 : T 12 11 := by
  repeat' (first | apply T.leaf | apply T.node)
  all_goals decide +kernel
theorem ev13 : T 13 11 := by
  repeat' (first | apply T.leaf | apply T.node)
  all_goals decide +kernel
theorem ev14 : T 14 11 := by
  repeat' (first | apply T.leaf | apply T.node)
  all_goals decide +kernel
theorem ev15 : T 15 11 := by
  repeat' (first | apply T.leaf | apply T.node)
  all_goals decide +kernel
end Hx
