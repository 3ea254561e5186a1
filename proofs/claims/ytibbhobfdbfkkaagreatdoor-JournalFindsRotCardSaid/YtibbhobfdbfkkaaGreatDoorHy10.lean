/- The sums of the sectors whose payload begins with a byte from 160 to 175: no two that are alike but for one bit of the record's number have the same second word. No condition. -/
import Derived.Test.YtibbhobfdbfkkaaGreatDoorHx1
set_option linter.all false
namespace Hx
theorem great10 : Nat.ble (Nat.shiftLeft 1 268000000) 5 = false := by decide +kernel
theorem ev160 : T 160 11 := by
  have h := great10
  clear h
  repeat' (first | apply T.leaf | apply T.node)
  all_goals decide +kernel
theorem ev161 : T 161 11 := by
  repeat' (first | apply T.leaf | apply T.node)
  all_goals decide +kernel
theorem ev162 : T 162 11 := by
  repeat' (first | apply T.leaf | apply T.node)
  all_goals decide +kernel
theorem ev163 : T 163 11 := by
  repeat' (first | apply T.leaf | apply T.node)
  all_goals decide +kernel
theorem ev164 : T 164 11 := by
  repeat' (first | apply T.leaf | apply T.node)
  all_goals decide +kernel
theorem ev165 : T 165 11 := by
  repeat' (first | apply T.leaf | apply T.node)
  all_goals decide +kernel
theorem ev166 : T 166 11 := by
  repeat' (first | apply T.leaf | apply T.node)
  all_goals decide +kernel
theorem ev167 : T 167 11 := by
  repeat' (first | apply T.leaf | apply T.node)
  all_goals decide +kernel
theorem ev168 : T 168 11 := by
  repeat' (first | apply T.leaf | apply T.node)
  all_goals decide +kernel
theorem ev169 : T 169 11 := by
  repeat' (first | apply T.leaf | apply T.node)
  all_goals decide +kernel
theorem ev170 : T 170 11 := by
  repeat' (first | apply T.leaf | apply T.node)
  all_goals decide +kernel
theorem ev171 : T 171 11 := by
  repeat' (first | apply T.leaf | apply T.node)
  all_goals decide +kernel
theorem ev172 : T 172 11 := by
  repeat' (first | apply T.leaf | apply T.node)
  all_goals decide +kernel
theorem ev173 : T 173 11 := by
  repeat' (first | apply T.leaf | apply T.node)
  all_goals decide +kernel
theorem ev174 : T 174 11 := by
  repeat' (first | apply T.leaf | apply T.node)
  all_goals decide +kernel
theorem ev175 : T 175 11 := by
  repeat' (first | apply T.leaf | apply T.node)
  all_goals decide +kernel
end Hx
