/- A text of a proof over this seat: walks over the program's functions and the plain laws that they need. -/
import Derived.Test.YtibbhobfdbfkkaaGreatDoorFwA
set_option linter.all false
section
/- Plain laws of the package guilt and what it stands on. -/
namespace Go.Fw
namespace Gu
/-- The first place at which p holds, or -1. -/
def ixF (p : Int → Bool) (xs : List Int) : Int := match xs.findIdx? p with
  | some k => k
  | none => -1
theorem ixF_at {p : Int → Bool} {xs : List Int} {i : Nat} (hi : i < xs.length) (hp : p (xs.getD i 0) = true) (hn : ∀ j, j < i → p (xs.getD j 0) = false) : ixF p xs = i := by
  have : xs.findIdx? p = some i := by
    rw [List.findIdx?_eq_some_iff_getElem]
    refine ⟨hi, by simpa [hi] using hp, fun j hj => ?_⟩
    have := hn j hj
    have hj' : j < xs.length := by omega
    simpa [hj'] using this
  unfold ixF
  rw [this]
theorem ixF_no {p : Int → Bool} {xs : List Int} (hn : ∀ j, j < xs.length → p (xs.getD j 0) = false) : ixF p xs = -1 := by
  have : xs.findIdx? p = none := by
    rw [List.findIdx?_eq_none_iff]
    intro x hx
    obtain ⟨j, hj, rfl⟩ := List.mem_iff_getElem.1 hx
    have := hn j hj
    simpa [hj] using this
  unfold ixF
  rw [this]
theorem ixF_any (p : Int → Bool) (xs : List Int) : decide (0 ≤ ixF p xs) = xs.any p := by
  unfold ixF
  cases h : xs.findIdx? p with
  | none =>
    have h := List.findIdx?_eq_none_iff.1 h
    have : xs.any p = false := List.any_eq_false.2 fun x hx => by simp [h x hx]
    rw [this]; rfl
  | some k =>
    obtain ⟨h1, h2, _⟩ := List.findIdx?_eq_some_iff_getElem.1 h
    have : xs.any p = true := List.any_eq_true.2 ⟨_, List.getElem_mem h1, h2⟩
    rw [this]
    simp
theorem ixF_mem (n : Int) (xs : List Int) : decide (0 ≤ ixF (fun x => decide (n = x)) xs) = decide (n ∈ xs) := by
  rw [ixF_any]
  by_cases h : n ∈ xs
  · rw [decide_eq_true h]
    exact List.any_eq_true.2 ⟨n, h, by simp⟩
  · rw [decide_eq_false h]
    exact List.any_eq_false.2 fun x hx => by simp; rintro rfl; exact h hx
theorem none_step {p : Int → Bool} {xs : List Int} {i : Int} (hi : 0 ≤ i) (hp : p (xs.getD i.toNat 0) = false) (hn : ∀ j, j < i.toNat → p (xs.getD j 0) = false) : ∀ j, j < (i + 1).toNat → p (xs.getD j 0) = false := fun j hj => by
  rcases Nat.lt_or_ge j i.toNat with h | h
  · exact hn j h
  · obtain rfl : j = i.toNat := by omega
    exact hp
/-- The elements that are wanted, each once, among the first k. -/
def fltr (p : Int → Int → Bool) (l : List Int) : Nat → List Int
  | 0 => []
  | k + 1 => if p k (l.getD k 0) && !decide (l.getD k 0 ∈ fltr p l k) then fltr p l k ++ [l.getD k 0] else fltr p l k
/-- The elements behind which no other one stands, each once, among the first k. -/
def extr (b : Int → Int → Bool) (l : List Int) : Nat → List Int
  | 0 => []
  | k + 1 => if !decide (l.getD k 0 ∈ extr b l k) && !(l.any fun t => !decide (t = l.getD k 0) && b t (l.getD k 0)) then extr b l k ++ [l.getD k 0] else extr b l k
/-- One set within another one. -/
def wi (a b : Int) : Bool := decide (iand a b = a)
end Gu
end Go.Fw
end

section
namespace Go.Fw
namespace Gu
/-- Marks fit a lattice of s sets. -/
def fitsB (s : Nat) (xb bs : List Bool) : Bool := decide (bs.length = s) && decide (xb.length = s) && (List.range bs.length).all fun j => !(bs.getD j false && !xb.getD j false)
/-- The marked sets among the first k. -/
def mkd (xs : List Int) (bs : List Bool) : Nat → List Int
  | 0 => []
  | k + 1 => if bs.getD k false then mkd xs bs k ++ [xs.getD k 0] else mkd xs bs k
/-- Minimal returns this. -/
def minl (xs : List Int) (bs : List Bool) : List Int := extr wi (mkd xs bs xs.length) (mkd xs bs xs.length).length
/-! ### the reference's way -/
/-- Another marked set lies within set x, among the first k. -/
def undr (xs : List Int) (bs : List Bool) (x : Int) (k : Nat) : Bool := (List.range k).any fun j => bs.getD j false && !decide (xs.getD j 0 = x) && wi (xs.getD j 0) x
def rmin (xs : List Int) (bs : List Bool) : Nat → List Int
  | 0 => []
  | k + 1 => if (bs.getD k false && !decide (xs.getD k 0 ∈ rmin xs bs k)) && !undr xs bs (xs.getD k 0) xs.length then rmin xs bs k ++ [xs.getD k 0] else rmin xs bs k
/-- Guilty's results. -/
def gl (xs : List Int) (xb bs : List Bool) : List Int := if fitsB xs.length xb bs then minl xs bs else []
def ge (xs : List Int) (xb bs : List Bool) : Int := if fitsB xs.length xb bs then 0 else 1
end Gu
end Go.Fw
end

section
namespace Go.Fw
namespace Ls
theorem take_step {α : Type} (d : α) {a b : List α} {i : Nat} (ha : i < a.length) (hb : i < b.length) (h : a.take i = b.take i) : a.take (i + 1) = b.take (i + 1) ↔ a.getD i d = b.getD i d := by
  rw [List.take_succ_eq_append_getElem ha, List.take_succ_eq_append_getElem hb, h, List.getD_eq_getElem?_getD, List.getD_eq_getElem?_getD, List.getElem?_eq_getElem ha, List.getElem?_eq_getElem hb]
  constructor
  · intro h1
    have := List.append_cancel_left h1
    injection this
  · intro h1
    have h2 : a[i] = b[i] := h1
    rw [h2]
theorem same_len {α : Type} [DecidableEq α] {a b : List α} (h : ¬ (a.length : Int) = b.length) : Value.bool false = .bool (decide (a = b)) := by
  rw [decide_eq_false (fun e => h (by rw [e]))]
theorem same_ne {α : Type} [DecidableEq α] {a b : List α} (d : α) {i : Int} (h : ¬ a.getD i.toNat d = b.getD i.toNat d) : Value.bool false = .bool (decide (a = b)) := by
  rw [decide_eq_false (fun e => h (by rw [e]))]
theorem same_eq {α : Type} [DecidableEq α] {a b : List α} {i : Int} (hl : (a.length : Int) = b.length) (hi : ¬ i < a.length) (h : a.take i.toNat = b.take i.toNat) : Value.bool true = .bool (decide (a = b)) := by
  rw [List.take_of_length_le (by omega), List.take_of_length_le (by omega)] at h
  rw [decide_eq_true h]
theorem same_step {α : Type} (d : α) {a b : List α} {i : Int} (h0 : 0 ≤ i) (ha : i < a.length) (hl : (a.length : Int) = b.length) (he : a.getD i.toNat d = b.getD i.toNat d) (h : a.take i.toNat = b.take i.toNat) : a.take (i + 1).toNat = b.take (i + 1).toNat := by
  rw [show (i + 1).toNat = i.toNat + 1 by omega]
  exact (take_step d (by omega) (by omega) h).2 he
theorem getD_some {α : Type} (d : α) {l : List α} {i : Nat} (h : i < l.length) : l[i]? = some (l.getD i d) := by
  rw [List.getD_eq_getElem?_getD, List.getElem?_eq_getElem h]; rfl
end Ls
end Go.Fw
end
