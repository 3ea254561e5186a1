/- A text of a proof over this seat: walks over the program's functions and the plain laws that they need. -/
import Derived.Test.YtcolgcdnpfpcdaaSha5
set_option linter.all false
namespace Go.Fw
namespace Sha
theorem keyOf_len (key : List UInt8) : (keyOf key).length ≤ 64 := by
  unfold keyOf
  split
  · rw [sum_len]; omega
  · omega
theorem padK_step (k : List UInt8) (c : UInt8) (hk : k.length ≤ 64) (i : Nat) (h : i < 64) (b : UInt8) (hb : b = if i < k.length then k.getD i 0 else 0) : (padK k c).take (i + 1) = (padK k c).take i ++ [b ^^^ c] := by
  rw [List.take_add_one, List.getElem?_eq_getElem (by rw [padK_len]; exact h)]
  congr 1
  simp only [Option.toList_some]
  congr 1
  subst hb
  simp only [padK, List.getElem_map]
  congr 1
  rw [List.getElem_append]
  split
  · rename_i h1
    have h2 : i < k.length := by simp at h1; omega
    rw [if_pos h2]
    simp [h2]
  · rename_i h1
    have h2 : ¬ i < k.length := by simp at h1; omega
    rw [if_neg h2, List.getElem_drop, List.getElem_replicate]
end Sha
end Go.Fw
namespace Go.Fw
namespace Sha
theorem mac_ref (key text : List UInt8) : mac key text = sum (padK (keyOf key) 92 ++ sum (padK (keyOf key) 54 ++ text)) := by
  unfold mac sum
  rw [adds_app, adds_app]
end Sha
end Go.Fw
namespace Go.Fw
namespace Sha
/-- The first i of a list, nought behind, n in all. -/
def cpW (xs : List UInt8) (n i : Nat) : List UInt8 := xs.take i ++ List.replicate (n - i) 0
theorem cpW_len (xs : List UInt8) (n i : Nat) (h : i ≤ n) (hx : n ≤ xs.length) : (cpW xs n i).length = n := by simp [cpW]; omega
theorem cpW_0 (xs : List UInt8) (n : Nat) : cpW xs n 0 = List.replicate n 0 := by simp [cpW]
theorem cpW_all (xs : List UInt8) (n : Nat) : cpW xs n n = xs.take n := by simp [cpW]
theorem cpW_step (xs : List UInt8) (n i : Nat) (h : i < n) (hx : n ≤ xs.length) : (cpW xs n i).set i (xs.getD i 0) = cpW xs n (i + 1) := by
  unfold cpW
  have e : (xs.take i).length = i := by simp; omega
  rw [List.set_append_right _ _ (by omega), e, Nat.sub_self, show n - i = (n - (i + 1)) + 1 by omega, List.replicate_succ, List.set_cons_zero, List.take_add_one, List.getElem?_eq_getElem (by omega), List.getD_eq_getElem?_getD, List.getElem?_eq_getElem (by omega)]
  rw [List.append_assoc]
  rfl
end Sha
end Go.Fw
