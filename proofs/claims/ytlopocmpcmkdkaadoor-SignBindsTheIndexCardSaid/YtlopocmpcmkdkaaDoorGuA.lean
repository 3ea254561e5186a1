/- A text of a proof over this seat: walks over the program's functions and the plain laws that they need. -/
import Derived.Test.YtlopocmpcmkdkaaDoorFwA
set_option linter.all false
namespace Go.Fw
namespace Ls
theorem take_step {α : Type} (d : α) {a b : List α} {i : Nat} (ha : i < a.length) (hb : i < b.length) (h : a.take i = b.take i) : a.take (i + 1) = b.take (i + 1) ↔ a.getD i d = b.getD i d := by
  rw [List.take_succ_eq_append_getElem ha, List.take_succ_eq_append_getElem hb, h, List.getD_eq_getElem?_getD, List.getD_eq_getElem?_getD, List.getElem?_eq_getElem ha, List.getElem?_eq_getElem hb]
  constructor
  · intro h1
    have := List.append_cancel_left h1
    injection this
  · intro h1
    have h2 : a[i] = b[i] := h1
    rw [h2]
theorem same_len {α : Type} [DecidableEq α] {a b : List α} (h : ¬ (a.length : Int) = b.length) : Value.bool false = .bool (decide (a = b)) := by
  rw [decide_eq_false (fun e => h (by rw [e]))]
theorem same_ne {α : Type} [DecidableEq α] {a b : List α} (d : α) {i : Int} (h : ¬ a.getD i.toNat d = b.getD i.toNat d) : Value.bool false = .bool (decide (a = b)) := by
  rw [decide_eq_false (fun e => h (by rw [e]))]
theorem same_eq {α : Type} [DecidableEq α] {a b : List α} {i : Int} (hl : (a.length : Int) = b.length) (hi : ¬ i < a.length) (h : a.take i.toNat = b.take i.toNat) : Value.bool true = .bool (decide (a = b)) := by
  rw [List.take_of_length_le (by omega), List.take_of_length_le (by omega)] at h
  rw [decide_eq_true h]
theorem same_step {α : Type} (d : α) {a b : List α} {i : Int} (h0 : 0 ≤ i) (ha : i < a.length) (hl : (a.length : Int) = b.length) (he : a.getD i.toNat d = b.getD i.toNat d) (h : a.take i.toNat = b.take i.toNat) : a.take (i + 1).toNat = b.take (i + 1).toNat := by
  rw [show (i + 1).toNat = i.toNat + 1 by omega]
  exact (take_step d (by omega) (by omega) h).2 he
theorem getD_some {α : Type} (d : α) {l : List α} {i : Nat} (h : i < l.length) : l[i]? = some (l.getD i d) := by
  rw [List.getD_eq_getElem?_getD, List.getElem?_eq_getElem h]; rfl
end Ls
end Go.Fw
