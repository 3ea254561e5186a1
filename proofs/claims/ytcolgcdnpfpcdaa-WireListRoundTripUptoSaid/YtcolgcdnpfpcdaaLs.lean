/- A text of a proof over this seat: walks over the program's functions and the plain laws that they need. -/
import Derived.Test.YtcolgcdnpfpcdaaWi4
set_option linter.all false
namespace Go.Fw
namespace Ls
theorem take_step {α : Type} (d : α) {a b : List α} {i : Nat} (ha : i < a.length) (hb : i < b.length) (h : a.take i = b.take i) : a.take (i + 1) = b.take (i + 1) ↔ a.getD i d = b.getD i d := by
  rw [List.take_succ_eq_append_getElem ha, List.take_succ_eq_append_getElem hb, h, List.getD_eq_getElem?_getD, List.getD_eq_getElem?_getD, List.getElem?_eq_getElem ha, List.getElem?_eq_getElem hb]
  constructor
  · intro h1
    have := List.append_cancel_left h1
    injection this
  · intro h1
    have h2 : a[i] = b[i] := h1
    rw [h2]
theorem same_len {α : Type} [DecidableEq α] {a b : List α} (h : ¬ (a.length : Int) = b.length) : Value.bool false = .bool (decide (a = b)) := by
  rw [decide_eq_false (fun e => h (by rw [e]))]
theorem same_ne {α : Type} [DecidableEq α] {a b : List α} (d : α) {i : Int} (h : ¬ a.getD i.toNat d = b.getD i.toNat d) : Value.bool false = .bool (decide (a = b)) := by
  rw [decide_eq_false (fun e => h (by rw [e]))]
theorem same_eq {α : Type} [DecidableEq α] {a b : List α} {i : Int} (hl : (a.length : Int) = b.length) (hi : ¬ i < a.length) (h : a.take i.toNat = b.take i.toNat) : Value.bool true = .bool (decide (a = b)) := by
  rw [List.take_of_length_le (by omega), List.take_of_length_le (by omega)] at h
  rw [decide_eq_true h]
theorem same_step {α : Type} (d : α) {a b : List α} {i : Int} (h0 : 0 ≤ i) (ha : i < a.length) (hl : (a.length : Int) = b.length) (he : a.getD i.toNat d = b.getD i.toNat d) (h : a.take i.toNat = b.take i.toNat) : a.take (i + 1).toNat = b.take (i + 1).toNat := by
  rw [show (i + 1).toNat = i.toNat + 1 by omega]
  exact (take_step d (by omega) (by omega) h).2 he
theorem getD_some {α : Type} (d : α) {l : List α} {i : Nat} (h : i < l.length) : l[i]? = some (l.getD i d) := by
  rw [List.getD_eq_getElem?_getD, List.getElem?_eq_getElem h]; rfl
/-- An encoding, up to element i. -/
def encT {α : Type} (enc : α → List UInt8) (xs : List α) (i : Nat) : List UInt8 := Wi.int (xs.length : Int) ++ (xs.take i).flatMap enc
theorem encT_0 {α : Type} (enc : α → List UInt8) (xs : List α) : encT enc xs 0 = Wi.int (xs.length : Int) := by simp [encT]
theorem encT_all {α : Type} (enc : α → List UInt8) (xs : List α) : encT enc xs xs.length = Wi.int (xs.length : Int) ++ xs.flatMap enc := by simp [encT]
theorem encT_step {α : Type} (enc : α → List UInt8) (d : α) (xs : List α) (i : Nat) (h : i < xs.length) : encT enc xs i ++ enc (xs.getD i d) = encT enc xs (i + 1) := by
  unfold encT
  rw [List.take_succ_eq_append_getElem h, List.flatMap_append, List.append_assoc, List.getD_eq_getElem?_getD, List.getElem?_eq_getElem h]
  simp
theorem encT_len {α : Type} (enc : α → List UInt8) (xs : List α) (B : Nat) (hB : ∀ x ∈ xs, (enc x).length ≤ B) (i : Nat) : (encT enc xs i).length ≤ 9 + xs.length * B := by
  unfold encT
  have h1 := Wi.int_len9 (xs.length : Int)
  have h2 : ∀ (l : List α), (∀ x ∈ l, (enc x).length ≤ B) → (l.flatMap enc).length ≤ l.length * B := by
    intro l
    induction l with
    | nil => intro _; simp
    | cons x l ih =>
      intro h
      have := ih fun y hy => h y (by simp [hy])
      have := h x (by simp)
      rw [List.flatMap_cons, List.length_append, List.length_cons, Nat.add_mul]
      omega
  have h3 := h2 (xs.take i) fun x hx => hB x (List.mem_of_mem_take hx)
  have h4 : (xs.take i).length * B ≤ xs.length * B := Nat.mul_le_mul_right _ (by rw [List.length_take]; omega)
  rw [List.length_append]
  omega
end Ls
end Go.Fw
