/- The sums of the sectors whose payload begins with a byte from 240 to 255: no two that are alike but for one bit of the record's number have the same second word. No condition. -/
import Derived.Test.YtibbhobfdbfkkaaGreatDoorHx1
set_option linter.all false
namespace Hx
theorem great15 : Nat.ble (Nat.shiftLeft 1 268000000) 5 = false := by decide +kernel
theorem ev240 : T 240 11 := by
  have h := great15
  clear h
  repeat' (first | apply T.leaf | apply T.node)
  all_goals decide +kernel
theorem ev241 : T 241 11 := by
  repeat' (first | apply T.leaf | apply T.node)
  all_goals decide +kernel
theorem ev242 : T 242 11 := by
  repeat' (first | apply T.leaf | apply T.node)
  all_goals decide +kernel
theorem ev243 : T 243 11 := by
  repeat' (first | apply T.leaf | apply T.node)
  all_goals decide +kernel
theorem ev244 : T 244 11 := by
  repeat' (first | apply T.leaf | apply T.node)
  all_goals decide +kernel
theorem ev245 : T 245 11 := by
  repeat' (first | apply T.leaf | apply T.node)
  all_goals decide +kernel
theorem ev246 : T 246 11 := by
  repeat' (first | apply T.leaf | apply T.node)
  all_goals decide +kernel
theorem ev247 : T 247 11 := by
  repeat' (first | apply T.leaf | apply T.node)
  all_goals decide +kernel
theorem ev248 : T 248 11 := by
  repeat' (first | apply T.leaf | apply T.node)
  all_goals decide +kernel
theorem ev249 : T 249 11 := by
  repeat' (first | apply T.leaf | apply T.node)
  all_goals decide +kernel
theorem ev250 : T 250 11 := by
  repeat' (first | apply T.leaf | apply T.node)
  all_goals decide +kernel
theorem ev251 : T 251 11 := by
  repeat' (first | apply T.leaf | apply T.node)
  all_goals decide +kernel
theorem ev252 : T 252 11 := by
  repeat' (first | apply T.leaf | apply T.node)
  all_goals decide +kernel
theorem ev253 : T 253 11 := by
  repeat' (first | apply T.leaf | apply T.node)
  all_goals decide +kernel
theorem ev254 : T 254 11 := by
  repeat' (first | apply T.leaf | apply T.node)
  all_goals decide +kernel
theorem ev255 : T 255 11 := by
  repeat' (first | apply T.leaf | apply T.node)
  all_goals decide +kernel
end Hx
