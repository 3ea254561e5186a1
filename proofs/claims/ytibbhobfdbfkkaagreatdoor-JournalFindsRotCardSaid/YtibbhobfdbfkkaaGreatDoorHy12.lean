/- The sums of the sectors whose payload begins with a byte from 192 to 207: no two that are alike but for one bit of the record's number have the same second word. No condition. -/
import Derived.Test.YtibbhobfdbfkkaaGreatDoorHx1
set_option linter.all false
namespace Hx
theorem great12 : Nat.ble (Nat.shiftLeft 1 268000000) 5 = false := by decide +kernel
theorem ev192 : T 192 11 := by
  have h := great12
  clear h
  repeat' (first | apply T.leaf | apply T.node)
  all_goals decide +kernel
theorem ev193 : T 193 11 := by
  repeat' (first | apply T.leaf | apply T.node)
  all_goals decide +kernel
theorem ev194 : T 194 11 := by
  repeat' (first | apply T.leaf | apply T.node)
  all_goals decide +kernel
theorem ev195 : T 195 11 := by
  repeat' (first | apply T.leaf | apply T.node)
  all_goals decide +kernel
theorem ev196 : T 196 11 := by
  repeat' (first | apply T.leaf | apply T.node)
  all_goals decide +kernel
theorem ev197 : T 197 11 := by
  repeat' (first | apply T.leaf | apply T.node)
  all_goals decide +kernel
theorem ev198 : T 198 11 := by
  repeat' (first | apply T.leaf | apply T.node)
  all_goals decide +kernel
theorem ev199 : T 199 11 := by
  repeat' (first | apply T.leaf | apply T.node)
  all_goals decide +kernel
theorem ev200 : T 200 11 := by
  repeat' (first | apply T.leaf | apply T.node)
  all_goals decide +kernel
theorem ev201 : T 201 11 := by
  repeat' (first | apply T.leaf | apply T.node)
  all_goals decide +kernel
theorem ev202 : T 202 11 := by
  repeat' (first | apply T.leaf | apply T.node)
  all_goals decide +kernel
theorem ev203 : T 203 11 := by
  repeat' (first | apply T.leaf | apply T.node)
  all_goals decide +kernel
theorem ev204 : T 204 11 := by
  repeat' (first | apply T.leaf | apply T.node)
  all_goals decide +kernel
theorem ev205 : T 205 11 := by
  repeat' (first | apply T.leaf | apply T.node)
  all_goals decide +kernel
theorem ev206 : T 206 11 := by
  repeat' (first | apply T.leaf | apply T.node)
  all_goals decide +kernel
theorem ev207 : T 207 11 := by
  repeat' (first | apply T.leaf | apply T.node)
  all_goals decide +kernel
end Hx
