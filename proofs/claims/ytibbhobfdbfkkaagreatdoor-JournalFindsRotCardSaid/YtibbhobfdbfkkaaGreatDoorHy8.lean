/- The sums of the sectors whose payload begins with a byte from 128 to 143: no two that are alike but for one bit of the record's number have the same second word. No condition. -/
import Derived.Test.YtibbhobfdbfkkaaGreatDoorHx1
set_option linter.all false
namespace Hx
theorem great8 : Nat.ble (Nat.shiftLeft 1 268000000) 5 = false := by decide +kernel
theorem ev128 : T 128 11 := by
  have h := great8
  clear h
  repeat' (first | apply T.leaf | apply T.node)
  all_goals decide +kernel
theorem ev129 : T 129 11 := by
  repeat' (first | apply T.leaf | apply T.node)
  all_goals decide +kernel
theorem ev130 : T 130 11 := by
  repeat' (first | apply T.leaf | apply T.node)
  all_goals decide +kernel
theorem ev131 : T 131 11 := by
  repeat' (first | apply T.leaf | apply T.node)
  all_goals decide +kernel
theorem ev132 : T 132 11 := by
  repeat' (first | apply T.leaf | apply T.node)
  all_goals decide +kernel
theorem ev133 : T 133 11 := by
  repeat' (first | apply T.leaf | apply T.node)
  all_goals decide +kernel
theorem ev134 : T 134 11 := by
  repeat' (first | apply T.leaf | apply T.node)
  all_goals decide +kernel
theorem ev135 : T 135 11 := by
  repeat' (first | apply T.leaf | apply T.node)
  all_goals decide +kernel
theorem ev136 : T 136 11 := by
  repeat' (first | apply T.leaf | apply T.node)
  all_goals decide +kernel
theorem ev137 : T 137 11 := by
  repeat' (first | apply T.leaf | apply T.node)
  all_goals decide +kernel
theorem ev138 : T 138 11 := by
  repeat' (first | apply T.leaf | apply T.node)
  all_goals decide +kernel
theorem ev139 : T 139 11 := by
  repeat' (first | apply T.leaf | apply T.node)
  all_goals decide +kernel
theorem ev140 : T 140 11 := by
  repeat' (first | apply T.leaf | apply T.node)
  all_goals decide +kernel
theorem ev141 : T 141 11 := by
  repeat' (first | apply T.leaf | apply T.node)
  all_goals decide +kernel
theorem ev142 : T 142 11 := by
  repeat' (first | apply T.leaf | apply T.node)
  all_goals decide +kernel
theorem ev143 : T 143 11 := by
  repeat' (first | apply T.leaf | apply T.node)
  all_goals decide +kernel
end Hx
