/- A text of a proof over this seat: walks over the program's functions and the plain laws that they need. -/
import Derived.Test.YtcbjemjohacbpaaFwA
import Derived.Test.YtcbjemjohacbpaaFwC
set_option linter.all false
section
/- Plain laws of the package guilt and what it stands on. -/
namespace Go.Fw
namespace Gu
/-- The first place at which p holds, or -1. -/
def ixF (p : Int → Bool) (xs : List Int) : Int := match xs.findIdx? p with
  | some k => k
  | none => -1
theorem ixF_at {p : Int → Bool} {xs : List Int} {i : Nat} (hi : i < xs.length) (hp : p (xs.getD i 0) = true) (hn : ∀ j, j < i → p (xs.getD j 0) = false) : ixF p xs = i := by
  have : xs.findIdx? p = some i := by
    rw [List.findIdx?_eq_some_iff_getElem]
    refine ⟨hi, by simpa [hi] using hp, fun j hj => ?_⟩
    have := hn j hj
    have hj' : j < xs.length := by omega
    simpa [hj'] using this
  unfold ixF
  rw [this]
theorem ixF_no {p : Int → Bool} {xs : List Int} (hn : ∀ j, j < xs.length → p (xs.getD j 0) = false) : ixF p xs = -1 := by
  have : xs.findIdx? p = none := by
    rw [List.findIdx?_eq_none_iff]
    intro x hx
    obtain ⟨j, hj, rfl⟩ := List.mem_iff_getElem.1 hx
    have := hn j hj
    simpa [hj] using this
  unfold ixF
  rw [this]
theorem ixF_any (p : Int → Bool) (xs : List Int) : decide (0 ≤ ixF p xs) = xs.any p := by
  unfold ixF
  cases h : xs.findIdx? p with
  | none =>
    have h := List.findIdx?_eq_none_iff.1 h
    have : xs.any p = false := List.any_eq_false.2 fun x hx => by simp [h x hx]
    rw [this]; rfl
  | some k =>
    obtain ⟨h1, h2, _⟩ := List.findIdx?_eq_some_iff_getElem.1 h
    have : xs.any p = true := List.any_eq_true.2 ⟨_, List.getElem_mem h1, h2⟩
    rw [this]
    simp
theorem ixF_mem (n : Int) (xs : List Int) : decide (0 ≤ ixF (fun x => decide (n = x)) xs) = decide (n ∈ xs) := by
  rw [ixF_any]
  by_cases h : n ∈ xs
  · rw [decide_eq_true h]
    exact List.any_eq_true.2 ⟨n, h, by simp⟩
  · rw [decide_eq_false h]
    exact List.any_eq_false.2 fun x hx => by simp; rintro rfl; exact h hx
theorem ixF_range (p : Int → Bool) (xs : List Int) : -1 ≤ ixF p xs ∧ ixF p xs < xs.length := by
  unfold ixF
  cases h : xs.findIdx? p with
  | none => simp; omega
  | some k =>
    obtain ⟨h1, _⟩ := List.findIdx?_eq_some_iff_getElem.1 h
    simp; omega
theorem none_step {p : Int → Bool} {xs : List Int} {i : Int} (hi : 0 ≤ i) (hp : p (xs.getD i.toNat 0) = false) (hn : ∀ j, j < i.toNat → p (xs.getD j 0) = false) : ∀ j, j < (i + 1).toNat → p (xs.getD j 0) = false := fun j hj => by
  rcases Nat.lt_or_ge j i.toNat with h | h
  · exact hn j h
  · obtain rfl : j = i.toNat := by omega
    exact hp
/-- The elements that are wanted, each once, among the first k. -/
def fltr (p : Int → Int → Bool) (l : List Int) : Nat → List Int
  | 0 => []
  | k + 1 => if p k (l.getD k 0) && !decide (l.getD k 0 ∈ fltr p l k) then fltr p l k ++ [l.getD k 0] else fltr p l k
theorem fltr_len (p : Int → Int → Bool) (l : List Int) : ∀ k, (fltr p l k).length ≤ k
  | 0 => Nat.le_refl _
  | k + 1 => by
    have := fltr_len p l k
    unfold fltr
    split
    · simp; omega
    · omega
/-- The elements behind which no other one stands, each once, among the first k. -/
def extr (b : Int → Int → Bool) (l : List Int) : Nat → List Int
  | 0 => []
  | k + 1 => if !decide (l.getD k 0 ∈ extr b l k) && !(l.any fun t => !decide (t = l.getD k 0) && b t (l.getD k 0)) then extr b l k ++ [l.getD k 0] else extr b l k
theorem extr_len (b : Int → Int → Bool) (l : List Int) : ∀ k, (extr b l k).length ≤ k
  | 0 => Nat.le_refl _
  | k + 1 => by
    have := extr_len b l k
    unfold extr
    split
    · simp; omega
    · omega
theorem getD_mem' {xs : List Int} {k : Nat} (h : k < xs.length) : xs.getD k 0 ∈ xs := by rw [List.getD_eq_getElem?_getD, List.getElem?_eq_getElem h]; exact List.getElem_mem h
theorem extr_mem (b : Int → Int → Bool) (l : List Int) : ∀ k, k ≤ l.length → ∀ x ∈ extr b l k, x ∈ l
  | 0, _, x, h => by cases h
  | k + 1, hk, x, h => by
    have ih := extr_mem b l k (by omega) x
    unfold extr at h
    split at h
    · rcases List.mem_append.1 h with h | h
      · exact ih h
      · obtain rfl := List.mem_singleton.1 h
        exact getD_mem' (by omega)
    · exact ih h
theorem fltr_mem (p : Int → Int → Bool) (l : List Int) : ∀ k, k ≤ l.length → ∀ x ∈ fltr p l k, x ∈ l
  | 0, _, x, h => by cases h
  | k + 1, hk, x, h => by
    have ih := fltr_mem p l k (by omega) x
    unfold fltr at h
    split at h
    · rcases List.mem_append.1 h with h | h
      · exact ih h
      · obtain rfl := List.mem_singleton.1 h
        exact getD_mem' (by omega)
    · exact ih h
theorem extr_step (b : Int → Int → Bool) (l : List Int) (k : Nat) (h : (!decide (l.getD k 0 ∈ extr b l k) && !(l.any fun t => !decide (t = l.getD k 0) && b t (l.getD k 0))) = true) : extr b l (k + 1) = extr b l k ++ [l.getD k 0] := by
  rw [extr, if_pos h]
theorem extr_stay (b : Int → Int → Bool) (l : List Int) (k : Nat) (h : (!decide (l.getD k 0 ∈ extr b l k) && !(l.any fun t => !decide (t = l.getD k 0) && b t (l.getD k 0))) = false) : extr b l (k + 1) = extr b l k := by
  rw [extr, if_neg (by rw [h]; decide)]
theorem fltr_step (p : Int → Int → Bool) (l : List Int) (k : Nat) (h : (p k (l.getD k 0) && !decide (l.getD k 0 ∈ fltr p l k)) = true) : fltr p l (k + 1) = fltr p l k ++ [l.getD k 0] := by
  rw [fltr, if_pos h]
theorem fltr_stay (p : Int → Int → Bool) (l : List Int) (k : Nat) (h : (p k (l.getD k 0) && !decide (l.getD k 0 ∈ fltr p l k)) = false) : fltr p l (k + 1) = fltr p l k := by
  rw [fltr, if_neg (by rw [h]; decide)]
/-- One set within another one. -/
def wi (a b : Int) : Bool := decide (iand a b = a)
end Gu
end Go.Fw
end

section
namespace Go.Fw
namespace Ls
theorem take_step {α : Type} (d : α) {a b : List α} {i : Nat} (ha : i < a.length) (hb : i < b.length) (h : a.take i = b.take i) : a.take (i + 1) = b.take (i + 1) ↔ a.getD i d = b.getD i d := by
  rw [List.take_succ_eq_append_getElem ha, List.take_succ_eq_append_getElem hb, h, List.getD_eq_getElem?_getD, List.getD_eq_getElem?_getD, List.getElem?_eq_getElem ha, List.getElem?_eq_getElem hb]
  constructor
  · intro h1
    have := List.append_cancel_left h1
    injection this
  · intro h1
    have h2 : a[i] = b[i] := h1
    rw [h2]
theorem same_len {α : Type} [DecidableEq α] {a b : List α} (h : ¬ (a.length : Int) = b.length) : Value.bool false = .bool (decide (a = b)) := by
  rw [decide_eq_false (fun e => h (by rw [e]))]
theorem same_ne {α : Type} [DecidableEq α] {a b : List α} (d : α) {i : Int} (h : ¬ a.getD i.toNat d = b.getD i.toNat d) : Value.bool false = .bool (decide (a = b)) := by
  rw [decide_eq_false (fun e => h (by rw [e]))]
theorem same_eq {α : Type} [DecidableEq α] {a b : List α} {i : Int} (hl : (a.length : Int) = b.length) (hi : ¬ i < a.length) (h : a.take i.toNat = b.take i.toNat) : Value.bool true = .bool (decide (a = b)) := by
  rw [List.take_of_length_le (by omega), List.take_of_length_le (by omega)] at h
  rw [decide_eq_true h]
theorem same_step {α : Type} (d : α) {a b : List α} {i : Int} (h0 : 0 ≤ i) (ha : i < a.length) (hl : (a.length : Int) = b.length) (he : a.getD i.toNat d = b.getD i.toNat d) (h : a.take i.toNat = b.take i.toNat) : a.take (i + 1).toNat = b.take (i + 1).toNat := by
  rw [show (i + 1).toNat = i.toNat + 1 by omega]
  exact (take_step d (by omega) (by omega) h).2 he
end Ls
end Go.Fw
end

section
namespace Go.Fw
namespace Gu
theorem mem_not {n : Int} {xs : List Int} (h : ∀ j, j < xs.length → xs.getD j 0 ≠ n) : decide (n ∈ xs) = false := decide_eq_false fun hm => by
  obtain ⟨j, hj, rfl⟩ := List.mem_iff_getElem.1 hm
  exact h j hj (by simp [hj])
theorem mem_yes {n : Int} {xs : List Int} {j : Nat} (hj : j < xs.length) (h : xs.getD j 0 = n) : decide (n ∈ xs) = true := decide_eq_true (h ▸ getD_mem' hj)
theorem ne_step {xs : List Int} {n i : Int} (hi : 0 ≤ i) (hp : ¬ xs.getD i.toNat 0 = n) (hn : ∀ j, j < i.toNat → xs.getD j 0 ≠ n) : ∀ j, j < (i + 1).toNat → xs.getD j 0 ≠ n := fun j hj => by
  rcases Nat.lt_or_ge j i.toNat with h | h
  · exact hn j h
  · obtain rfl : j = i.toNat := by omega
    exact hp
/-- Marks fit a lattice of s sets. -/
def fitsB (s : Nat) (xb bs : List Bool) : Bool := decide (bs.length = s) && decide (xb.length = s) && (List.range bs.length).all fun j => !(bs.getD j false && !xb.getD j false)
theorem fits_ne {s : Nat} {xb bs : List Bool} (h : ¬ (bs.length : Int) = s ∨ ¬ (xb.length : Int) = s) : fitsB s xb bs = false := by
  unfold fitsB
  rcases h with h | h
  · rw [decide_eq_false (by omega)]; rfl
  · rw [decide_eq_false (p := xb.length = s) (by omega)]; simp
theorem fits_at {s : Nat} {xb bs : List Bool} {i : Nat} (hi : i < bs.length) (h : (bs.getD i false && !xb.getD i false) = true) : fitsB s xb bs = false := by
  unfold fitsB
  rw [Bool.and_eq_false_iff]
  refine .inr (List.all_eq_false.2 ⟨i, List.mem_range.2 hi, ?_⟩)
  rw [h]; decide
theorem fits_ok {s : Nat} {xb bs : List Bool} (h1 : (bs.length : Int) = s) (h2 : (xb.length : Int) = s) (h : ∀ j, j < bs.length → (bs.getD j false && !xb.getD j false) = false) : fitsB s xb bs = true := by
  unfold fitsB
  rw [decide_eq_true (by omega), decide_eq_true (p := xb.length = s) (by omega)]
  exact List.all_eq_true.2 fun j hj => by rw [h j (List.mem_range.1 hj)]; rfl
theorem fits_use {s : Nat} {xb bs : List Bool} (h : fitsB s xb bs = true) : bs.length = s ∧ xb.length = s ∧ ∀ j, j < bs.length → (bs.getD j false && !xb.getD j false) = false := by
  unfold fitsB at h
  simp only [Bool.and_eq_true, decide_eq_true_eq] at h
  refine ⟨h.1.1, h.1.2, fun j hj => ?_⟩
  have := List.all_eq_true.1 h.2 j (List.mem_range.2 hj)
  simpa only [Bool.not_eq_true'] using this
theorem fit_step {p : Nat → Bool} {i : Int} (hi : 0 ≤ i) (hp : p i.toNat = false) (hn : ∀ j, j < i.toNat → p j = false) : ∀ j, j < (i + 1).toNat → p j = false := fun j hj => by
  rcases Nat.lt_or_ge j i.toNat with h | h
  · exact hn j h
  · obtain rfl : j = i.toNat := by omega
    exact hp
/-- The marked sets among the first k. -/
def mkd (xs : List Int) (bs : List Bool) : Nat → List Int
  | 0 => []
  | k + 1 => if bs.getD k false then mkd xs bs k ++ [xs.getD k 0] else mkd xs bs k
theorem mkd_len (xs : List Int) (bs : List Bool) : ∀ k, (mkd xs bs k).length ≤ k
  | 0 => Nat.le_refl _
  | k + 1 => by
    have := mkd_len xs bs k
    unfold mkd
    split
    · simp; omega
    · omega
theorem mkd_mem (xs : List Int) (bs : List Bool) : ∀ k, k ≤ xs.length → ∀ x ∈ mkd xs bs k, x ∈ xs
  | 0, _, x, h => by cases h
  | k + 1, hk, x, h => by
    have ih := mkd_mem xs bs k (by omega) x
    unfold mkd at h
    split at h
    · rcases List.mem_append.1 h with h | h
      · exact ih h
      · obtain rfl := List.mem_singleton.1 h
        exact getD_mem' (by omega)
    · exact ih h
theorem mkd_step {xs : List Int} {bs : List Bool} {k : Nat} (h : bs.getD k false = true) : mkd xs bs (k + 1) = mkd xs bs k ++ [xs.getD k 0] := by rw [mkd, if_pos h]
theorem mkd_stay {xs : List Int} {bs : List Bool} {k : Nat} (h : bs.getD k false = false) : mkd xs bs (k + 1) = mkd xs bs k := by rw [mkd, if_neg (by rw [h]; decide)]
/-- Minimal returns this. -/
def minl (xs : List Int) (bs : List Bool) : List Int := extr wi (mkd xs bs xs.length) (mkd xs bs xs.length).length
theorem minl_mem {xs : List Int} {bs : List Bool} : ∀ x ∈ minl xs bs, x ∈ xs := fun x h => mkd_mem xs bs _ (Nat.le_refl _) x (extr_mem _ _ _ (Nat.le_refl _) x h)
theorem minl_len {xs : List Int} {bs : List Bool} : (minl xs bs).length ≤ xs.length := Nat.le_trans (extr_len _ _ _) (mkd_len _ _ _)

/-! ### the reference's way -/
/-- Another marked set lies within set x, among the first k. -/
def undr (xs : List Int) (bs : List Bool) (x : Int) (k : Nat) : Bool := (List.range k).any fun j => bs.getD j false && !decide (xs.getD j 0 = x) && wi (xs.getD j 0) x
theorem undr_succ (xs : List Int) (bs : List Bool) (x : Int) (k : Nat) : undr xs bs x (k + 1) = (undr xs bs x k || (bs.getD k false && !decide (xs.getD k 0 = x) && wi (xs.getD k 0) x)) := by
  unfold undr
  rw [List.range_succ, List.any_append]
  simp
def rmin (xs : List Int) (bs : List Bool) : Nat → List Int
  | 0 => []
  | k + 1 => if (bs.getD k false && !decide (xs.getD k 0 ∈ rmin xs bs k)) && !undr xs bs (xs.getD k 0) xs.length then rmin xs bs k ++ [xs.getD k 0] else rmin xs bs k
theorem rmin_len (xs : List Int) (bs : List Bool) : ∀ k, (rmin xs bs k).length ≤ k
  | 0 => Nat.le_refl _
  | k + 1 => by
    have := rmin_len xs bs k
    unfold rmin
    split
    · simp; omega
    · omega
theorem rmin_mem (xs : List Int) (bs : List Bool) : ∀ k, k ≤ xs.length → ∀ x ∈ rmin xs bs k, x ∈ xs
  | 0, _, x, h => by cases h
  | k + 1, hk, x, h => by
    have ih := rmin_mem xs bs k (by omega) x
    unfold rmin at h
    split at h
    · rcases List.mem_append.1 h with h | h
      · exact ih h
      · obtain rfl := List.mem_singleton.1 h
        exact getD_mem' (by omega)
    · exact ih h
theorem undr_any (xs : List Int) (bs : List Bool) (x : Int) : ∀ k, undr xs bs x k = (mkd xs bs k).any fun t => !decide (t = x) && wi t x
  | 0 => by simp [undr, mkd]
  | k + 1 => by
    rw [undr_succ, undr_any xs bs x k]
    cases h : bs.getD k false with
    | true => rw [mkd_step h, List.any_append]; simp
    | false => rw [mkd_stay h]; simp
theorem mkd_pre (xs : List Int) (bs : List Bool) (k n : Nat) (h : k ≤ n) : ∃ t, mkd xs bs n = mkd xs bs k ++ t := by
  induction n with
  | zero => obtain rfl : k = 0 := by omega
            exact ⟨[], by simp⟩
  | succ n ih =>
    rcases Nat.lt_or_ge n k with h1 | h1
    · obtain rfl : k = n + 1 := by omega
      exact ⟨[], by simp⟩
    · obtain ⟨t, ht⟩ := ih h1
      cases hb : bs.getD n false with
      | true => exact ⟨t ++ [xs.getD n 0], by rw [mkd_step hb, ht, List.append_assoc]⟩
      | false => exact ⟨t, by rw [mkd_stay hb, ht]⟩
theorem rmin_extr (xs : List Int) (bs : List Bool) : ∀ k, k ≤ xs.length → rmin xs bs k = extr wi (mkd xs bs xs.length) (mkd xs bs k).length
  | 0, _ => rfl
  | k + 1, hk => by
    have ih := rmin_extr xs bs k (by omega)
    obtain ⟨t, ht⟩ := mkd_pre xs bs (k + 1) xs.length hk
    cases hb : bs.getD k false with
    | true =>
      rw [mkd_step hb] at ht ⊢
      have hx : (mkd xs bs xs.length).getD (mkd xs bs k).length 0 = xs.getD k 0 := by
        rw [ht, List.getD_eq_getElem?_getD, List.append_assoc, List.getElem?_append_right (Nat.le_refl _), Nat.sub_self]
        rfl
      rw [rmin, List.length_append, List.length_singleton, extr, hb, Bool.true_and, undr_any, hx, ih]
    | false =>
      rw [mkd_stay hb, rmin, hb, Bool.false_and, Bool.false_and, if_neg (by decide), ih]
theorem rmin_all (xs : List Int) (bs : List Bool) : rmin xs bs xs.length = minl xs bs := rmin_extr xs bs _ (Nat.le_refl _)
theorem rmin_step {xs : List Int} {bs : List Bool} {k : Nat} {g : Bool} (hg : g = ((bs.getD k false && !decide (xs.getD k 0 ∈ rmin xs bs k)) && !undr xs bs (xs.getD k 0) xs.length)) (h : g = true) : rmin xs bs (k + 1) = rmin xs bs k ++ [xs.getD k 0] := by rw [rmin, ← hg, if_pos h]
theorem rmin_stay {xs : List Int} {bs : List Bool} {k : Nat} {g : Bool} (hg : g = ((bs.getD k false && !decide (xs.getD k 0 ∈ rmin xs bs k)) && !undr xs bs (xs.getD k 0) xs.length)) (h : g = false) : rmin xs bs (k + 1) = rmin xs bs k := by rw [rmin, ← hg, if_neg (by rw [h]; decide)]
theorem good_step {g u c : Bool} (h : (g && !u) = true) : (!c) = (g && !(u || c)) := by cases g <;> cases u <;> cases c <;> simp_all
theorem any_mono {p : Nat → Bool} {j n : Nat} (h : j ≤ n) (hp : (List.range j).any p = true) : (List.range n).any p = true := by
  obtain ⟨x, hx, hpx⟩ := List.any_eq_true.1 hp
  exact List.any_eq_true.2 ⟨x, List.mem_range.2 (Nat.lt_of_lt_of_le (List.mem_range.1 hx) h), hpx⟩
theorem good_end {p : Nat → Bool} {g gd : Bool} {j : Int} {n : Nat} (hj : 0 ≤ j ∧ j ≤ n) (hc : (n : Int) ≤ j ∨ gd = false) (hg : gd = (g && !(List.range j.toNat).any p)) : gd = (g && !(List.range n).any p) := by
  rcases hc with hc | hc
  · rw [show n = j.toNat by omega]; exact hg
  · subst hc
    cases g with
    | false => rfl
    | true =>
      simp only [Bool.true_and] at hg ⊢
      have : (List.range j.toNat).any p = true := by cases h : (List.range j.toNat).any p <;> simp_all
      rw [any_mono (by omega) this]; rfl
/-- Guilty's results. -/
def gl (xs : List Int) (xb bs : List Bool) : List Int := if fitsB xs.length xb bs then minl xs bs else []
def ge (xs : List Int) (xb bs : List Bool) : Int := if fitsB xs.length xb bs then 0 else 1
end Gu
end Go.Fw
end

section
namespace Go.Fw
namespace Gu
theorem fltr_any (p : Int → Int → Bool) (l : List Int) : ∀ k, decide (0 < (fltr p l k).length) = (List.range k).any fun j => p j (l.getD j 0)
  | 0 => rfl
  | k + 1 => by
    rw [List.range_succ, List.any_append, ← fltr_any p l k]
    cases h : p k (l.getD k 0) && !decide (l.getD k 0 ∈ fltr p l k) with
    | true =>
      rw [fltr_step p l k h]
      simp only [Bool.and_eq_true] at h
      simp only [List.any_cons, List.any_nil, h.1, Bool.or_true, Bool.or_false, decide_eq_true_eq, List.length_append, List.length_singleton]
      omega
    | false =>
      rw [fltr_stay p l k h]
      rcases Bool.and_eq_false_iff.1 h with h | h
      · simp only [List.any_cons, List.any_nil, h, Bool.or_false]
      · have hm : l.getD k 0 ∈ fltr p l k := by simpa using h
        have : 0 < (fltr p l k).length := List.length_pos_of_mem hm
        simp [this]
/-- The empty set is marked. -/
def older (xs : List Int) (bs : List Bool) : Bool := (List.range bs.length).any fun j => bs.getD j false && decide (xs.getD j 0 = 0)
def gOld (xs : List Int) (xb bs : List Bool) : Bool := fitsB xs.length xb bs && older xs bs
/-- Go's numbers made from a list. -/
def arnd (n m : Int) : Int := (if n < 0 then -(n + 1) else n) % m
theorem arnd_range {n m : Int} (hm : 0 < m) : 0 ≤ arnd n m ∧ arnd n m < m := by
  unfold arnd
  exact ⟨Int.emod_nonneg _ (by omega), Int.emod_lt_of_pos _ hm⟩
def atN (l : List Int) (i m : Int) : Int := if i < 0 ∨ (l.length : Int) ≤ i then 0 else arnd (l.getD i.toNat 0) m
theorem atN_range {l : List Int} {i m : Int} (hm : 0 < m) : 0 ≤ atN l i m ∧ atN l i m < m := by
  unfold atN
  split
  · omega
  · exact arnd_range hm
end Gu
end Go.Fw
end

section
namespace Go.Fw
namespace Gu
theorem extr_nodup (b : Int → Int → Bool) (l : List Int) : ∀ k, (extr b l k).Nodup
  | 0 => List.nodup_nil
  | k + 1 => by
    have ih := extr_nodup b l k
    unfold extr
    split
    · rename_i h
      simp only [Bool.and_eq_true, Bool.not_eq_true', decide_eq_false_iff_not] at h
      rw [List.nodup_append]
      refine ⟨ih, by simp, fun x hx y hy => ?_⟩
      obtain rfl := List.mem_singleton.1 hy
      rintro rfl
      exact h.1 hx
    · exact ih
/-- Those of the first k that lie within a set. -/
def insd (l : List Int) (s : Int) (k : Nat) : List Int := (l.take k).filter fun y => wi y s
theorem take_snoc' {l : List Int} {k : Nat} (h : k < l.length) : l.take (k + 1) = l.take k ++ [l.getD k 0] := by
  rw [List.take_add_one, List.getElem?_eq_getElem h, List.getD_eq_getElem?_getD, List.getElem?_eq_getElem h]
  rfl
/-- What stands in no doubled list is wanted at its place. -/
theorem fltr_filter (p : Int → Bool) (l : List Int) (hn : l.Nodup) : ∀ k, k ≤ l.length → fltr (fun _ y => p y) l k = (l.take k).filter p
  | 0, _ => by simp [fltr]
  | k + 1, hk => by
    have ih := fltr_filter p l hn k (by omega)
    rw [take_snoc' (by omega), List.filter_append, ← ih]
    cases h : p (l.getD k 0) with
    | false =>
      rw [fltr_stay _ _ _ (by rw [h]; rfl), List.filter_cons, if_neg (by rw [h]; decide), List.filter_nil, List.append_nil]
    | true =>
      have hni : l.getD k 0 ∉ fltr (fun _ y => p y) l k := by
        rw [ih]
        intro hm
        have hm := (List.mem_filter.1 hm).1
        obtain ⟨j, hj, he⟩ := List.mem_iff_getElem.1 hm
        rw [List.length_take] at hj
        rw [List.getElem_take] at he
        have hg : l.getD k 0 = l[k] := by simp [show k < l.length by omega]
        rw [hg] at he
        exact List.pairwise_iff_getElem.1 hn j k (by omega) (by omega) (by omega) he
      rw [fltr_step _ _ _ (by rw [h, decide_eq_false hni]; rfl), List.filter_cons, if_pos h, List.filter_nil]
/-- Hidden's results. -/
def hp (xb bs : List Bool) (g : List Int) (i x : Int) : Bool := (xb.getD i.toNat false && !bs.getD i.toNat false) && g.any fun y => wi y x
def hid (xs : List Int) (xb bs : List Bool) : List Int := if fitsB xs.length xb bs then fltr (hp xb bs (gl xs xb bs)) xs xs.length else []
/-- Hides' results. -/
def hds (xs : List Int) (xb bs : List Bool) (s : Int) : List Int := if s ∈ hid xs xb bs then (gl xs xb bs).filter fun y => wi y s else []
def hde (xs : List Int) (xb bs : List Bool) (s : Int) : Int := if fitsB xs.length xb bs then (if s ∈ hid xs xb bs then 0 else 6) else 1
theorem minl_nodup (xs : List Int) (bs : List Bool) : (minl xs bs).Nodup := extr_nodup _ _ _
theorem gl_nodup (xs : List Int) (xb bs : List Bool) : (gl xs xb bs).Nodup := by
  unfold gl
  split
  · exact minl_nodup _ _
  · exact List.nodup_nil
theorem gl_len (xs : List Int) (xb bs : List Bool) : (gl xs xb bs).length ≤ xs.length := by
  unfold gl
  split
  · exact minl_len
  · simp
theorem hid_len (xs : List Int) (xb bs : List Bool) : (hid xs xb bs).length ≤ xs.length := by
  unfold hid
  split
  · exact fltr_len _ _ _
  · simp
theorem ge_ne {xs : List Int} {xb bs : List Bool} (h : ¬ ge xs xb bs = 0) : fitsB xs.length xb bs = false := by
  unfold ge at h
  cases hf : fitsB xs.length xb bs with
  | false => rfl
  | true => rw [hf] at h; simp at h
theorem ge_eq {xs : List Int} {xb bs : List Bool} (h : ge xs xb bs = 0) : fitsB xs.length xb bs = true := by
  unfold ge at h
  cases hf : fitsB xs.length xb bs with
  | true => rfl
  | false => rw [hf] at h; simp at h
end Gu
end Go.Fw
namespace Go.Fw
namespace Gu
variable {xs : List Int} {xb bs : List Bool} {s : Int}
theorem hds_no (h : fitsB xs.length xb bs = false) : [] = hds xs xb bs s := by unfold hds hid; rw [h]; simp
theorem hde_no (h : fitsB xs.length xb bs = false) : ge xs xb bs = hde xs xb bs s := by unfold ge hde; rw [h]; simp
theorem hds_none (h : s ∉ hid xs xb bs) : [] = hds xs xb bs s := by unfold hds; rw [if_neg h]
theorem hde_none (h : fitsB xs.length xb bs = true) (h2 : s ∉ hid xs xb bs) : 6 = hde xs xb bs s := by unfold hde; rw [if_pos h, if_neg h2]
theorem hds_yes (h : s ∈ hid xs xb bs) : fltr (fun _ y => wi y s) (gl xs xb bs) (gl xs xb bs).length = hds xs xb bs s := by
  unfold hds
  rw [if_pos h, fltr_filter (fun y => wi y s) _ (gl_nodup _ _ _) _ (Nat.le_refl _), List.take_length]
theorem hde_yes (h : fitsB xs.length xb bs = true) (h2 : s ∈ hid xs xb bs) : ge xs xb bs = hde xs xb bs s := by unfold hde ge; rw [if_pos h, if_pos h, if_pos h2]
/-- Inner: the bits of all sets within one, among the first k. -/
def inr (xs : List Int) (s : Int) : Nat → Int
  | 0 => 0
  | k + 1 => if wi (xs.getD k 0) s then ior (inr xs s k) (xs.getD k 0) else inr xs s k
end Gu
end Go.Fw
end

section
namespace Go.Fw
namespace Gu
/-- What Below strikes out. -/
def del (s y : Int) : Bool := decide (y = s) || !wi y s
def kept (s : Int) (xs : List Int) : List Int := xs.filter fun y => !del s y
/-- Where DeleteFunc stands: i kept among the first j. -/
structure Dst (s : Int) (xs ys : List Int) (i j : Int) : Prop where
  i0 : 0 ≤ i ∧ i < j ∧ j ≤ xs.length
  len : ys.length = xs.length
  head : ys.take i.toNat = kept s (xs.take j.toNat)
  tail : ys.drop j.toNat = xs.drop j.toNat
theorem ixF_spec {p : Int → Bool} {xs : List Int} (h : ¬ ixF p xs = -1) : 0 ≤ ixF p xs ∧ ixF p xs < xs.length ∧ p (xs.getD (ixF p xs).toNat 0) = true ∧ ∀ j, j < (ixF p xs).toNat → p (xs.getD j 0) = false := by
  unfold ixF at h ⊢
  cases hf : xs.findIdx? p with
  | none => rw [hf] at h; simp at h
  | some k =>
    obtain ⟨h1, h2, h3⟩ := List.findIdx?_eq_some_iff_getElem.1 hf
    refine ⟨by simp, by simpa using h1, by simpa [h1] using h2, fun j hj => ?_⟩
    simp only [Int.toNat_natCast] at hj
    have := h3 j hj
    have hj' : j < xs.length := by omega
    simpa [hj'] using this
theorem ixF_none {p : Int → Bool} {xs : List Int} (h : ixF p xs = -1) : ∀ x ∈ xs, p x = false := by
  unfold ixF at h
  cases hf : xs.findIdx? p with
  | none => exact fun x hx => List.findIdx?_eq_none_iff.1 hf x hx
  | some k => rw [hf] at h; simp at h
theorem kept_len (s : Int) (xs : List Int) : (kept s xs).length ≤ xs.length := List.length_filter_le _ _
/-- The greatest sets in one. -/
def blw (xs : List Int) (s : Int) : List Int := extr (fun a b => wi b a) (kept s xs) (kept s xs).length
theorem blw_len (xs : List Int) (s : Int) : (blw xs s).length ≤ xs.length := Nat.le_trans (extr_len _ _ _) (kept_len _ _)
theorem kept_all {s : Int} {xs : List Int} (h : ∀ x ∈ xs, del s x = false) : kept s xs = xs := List.filter_eq_self.2 fun x hx => by rw [h x hx]; rfl
theorem Dst.start {s : Int} {xs : List Int} {i : Int} (hi : 0 ≤ i ∧ i < xs.length) (hp : del s (xs.getD i.toNat 0) = true) (hn : ∀ j, j < i.toNat → del s (xs.getD j 0) = false) : Dst s xs xs i (i + 1) := by
  refine ⟨by omega, rfl, ?_, rfl⟩
  rw [show (i + 1).toNat = i.toNat + 1 by omega, take_snoc' (by omega), kept, List.filter_append, List.filter_cons, if_neg (by rw [hp]; decide), List.filter_nil, List.append_nil]
  refine (kept_all (s := s) fun x hx => ?_).symm
  obtain ⟨j, hj, rfl⟩ := List.mem_iff_getElem.1 hx
  rw [List.length_take] at hj
  have := hn j (by omega)
  rw [List.getElem_take]
  rwa [List.getD_eq_getElem?_getD, List.getElem?_eq_getElem (by omega)] at this
theorem Dst.get {s : Int} {xs ys : List Int} {i j : Int} (h : Dst s xs ys i j) (hj : j < xs.length) : ys.getD j.toNat 0 = xs.getD j.toNat 0 := by
  have := congrArg (·[0]?) h.tail
  simp only [List.getElem?_drop, Nat.add_zero] at this
  rw [List.getD_eq_getElem?_getD, List.getD_eq_getElem?_getD, this]
theorem Dst.skip {s : Int} {xs ys : List Int} {i j : Int} (h : Dst s xs ys i j) (hj : j < xs.length) (hp : del s (ys.getD j.toNat 0) = true) : Dst s xs ys i (j + 1) := by
  have hg := h.get hj
  rw [hg] at hp
  have := h.i0
  refine ⟨by omega, h.len, ?_, ?_⟩
  · rw [h.head, show (j + 1).toNat = j.toNat + 1 by omega, take_snoc' (by omega)]
    unfold kept
    rw [List.filter_append, List.filter_cons, if_neg (by rw [hp]; decide), List.filter_nil, List.append_nil]
  · have := congrArg (List.drop 1) h.tail
    rwa [List.drop_drop, List.drop_drop, show j.toNat + 1 = (j + 1).toNat by omega] at this
theorem Dst.keep {s : Int} {xs ys : List Int} {i j : Int} (h : Dst s xs ys i j) (hj : j < xs.length) (hp : del s (ys.getD j.toNat 0) = false) : Dst s xs (ys.set i.toNat (ys.getD j.toNat 0)) (i + 1) (j + 1) := by
  have hg := h.get hj
  have h0 := h.i0
  have hl := h.len
  refine ⟨by omega, by rw [List.length_set]; exact hl, ?_, ?_⟩
  · rw [hg] at hp ⊢
    rw [show (i + 1).toNat = i.toNat + 1 by omega, show (j + 1).toNat = j.toNat + 1 by omega, take_snoc' (show j.toNat < xs.length by omega), List.take_set, List.take_add_one, List.getElem?_eq_getElem (by omega)]
    have hlt : (ys.take i.toNat).length = i.toNat := by rw [List.length_take]; omega
    rw [List.set_append_right _ _ (by omega), hlt, Nat.sub_self]
    simp only [Option.toList_some, List.set_cons_zero]
    rw [h.head]
    unfold kept
    rw [List.filter_append, List.filter_cons, if_pos (by rw [hp]; rfl), List.filter_nil]
  · have := congrArg (List.drop 1) h.tail
    rw [List.drop_drop, List.drop_drop, show j.toNat + 1 = (j + 1).toNat by omega] at this
    rw [List.drop_set_of_lt (by omega)]
    exact this
theorem Dst.done {s : Int} {xs ys : List Int} {i j : Int} (h : Dst s xs ys i j) (hj : ¬ j < xs.length) : ys.take i.toNat = kept s xs := by
  have := h.i0
  rw [h.head, List.take_of_length_le (by omega)]
end Gu
end Go.Fw
end

section
namespace Go.Fw
namespace Gu
/-- Another set lies between, among the first k. -/
def btw (xs : List Int) (s x : Int) (k : Nat) : Bool := (List.range k).any fun j => ((!decide (xs.getD j 0 = s) && wi (xs.getD j 0) s) && !decide (xs.getD j 0 = x)) && wi x (xs.getD j 0)
def rblw (xs : List Int) (s : Int) : Nat → List Int
  | 0 => []
  | k + 1 => if ((!decide (xs.getD k 0 = s) && wi (xs.getD k 0) s) && !decide (xs.getD k 0 ∈ rblw xs s k)) && !btw xs s (xs.getD k 0) xs.length then rblw xs s k ++ [xs.getD k 0] else rblw xs s k
end Gu
end Go.Fw
namespace Go.Fw
namespace Gu
/-- The marks that Each makes. -/
def eac (xb : List Bool) (m : List Int) : Nat → List Bool
  | 0 => []
  | k + 1 => eac xb m k ++ [xb.getD k false && decide (atN m k 3 = 1)]
theorem eac_len (xb : List Bool) (m : List Int) : ∀ k, (eac xb m k).length = k
  | 0 => rfl
  | k + 1 => by rw [eac, List.length_append, eac_len xb m k]; rfl
theorem eac_step (xb : List Bool) (m : List Int) (k : Nat) : eac xb m (k + 1) = eac xb m k ++ [xb.getD k false && decide (atN m k 3 = 1)] := rfl
end Gu
end Go.Fw
end

section
namespace Go.Fw
namespace Gu
/-- Does this set build? -/
def bld (xs : List Int) (xb : List Bool) (y : Int) : Bool := xb.getD (ixF (fun t => decide (y = t)) xs).toNat false
def okT (xs : List Int) (xb : List Bool) (g : Int) : Bool := decide (1 < (blw xs g).length) && (blw xs g).all (bld xs xb)
/-- Together's lists, for the first k. -/
def tog (xs : List Int) (xb : List Bool) (gl : List Int) : Nat → List (List Int)
  | 0 => []
  | k + 1 => if okT xs xb (gl.getD k 0) then tog xs xb gl k ++ [gl.getD k 0 :: blw xs (gl.getD k 0)] else tog xs xb gl k
theorem tog_len (xs : List Int) (xb : List Bool) (gl : List Int) : ∀ k, (tog xs xb gl k).length ≤ k
  | 0 => Nat.le_refl _
  | k + 1 => by
    have := tog_len xs xb gl k
    unfold tog
    split
    · simp; omega
    · omega
theorem tog_step {xs : List Int} {xb : List Bool} {gl : List Int} {k : Nat} (h : okT xs xb (gl.getD k 0) = true) : tog xs xb gl (k + 1) = tog xs xb gl k ++ [gl.getD k 0 :: blw xs (gl.getD k 0)] := by rw [tog, if_pos h]
theorem tog_stay {xs : List Int} {xb : List Bool} {gl : List Int} {k : Nat} (h : okT xs xb (gl.getD k 0) = false) : tog xs xb gl (k + 1) = tog xs xb gl k := by rw [tog, if_neg (by rw [h]; decide)]
theorem kept_mem {s : Int} {xs : List Int} : ∀ x ∈ kept s xs, x ∈ xs := fun x h => (List.mem_filter.1 h).1
theorem blw_mem {s : Int} {xs : List Int} : ∀ x ∈ blw xs s, x ∈ xs := fun x h => kept_mem x (extr_mem _ _ _ (Nat.le_refl _) x h)
theorem ixF_in {xs : List Int} {y : Int} (h : y ∈ xs) : 0 ≤ ixF (fun t => decide (y = t)) xs ∧ ixF (fun t => decide (y = t)) xs < xs.length := by
  have h1 := ixF_mem y xs
  rw [decide_eq_true h] at h1
  have h2 := of_decide_eq_true h1
  exact ⟨h2, (ixF_range _ _).2⟩
/-- The program's test. -/
theorem okT_prog (xs : List Int) (xb : List Bool) (g : Int) : (decide ((1 : Int) < ((blw xs g).length : Int)) && decide (((fltr (fun _ y => bld xs xb y) (blw xs g) (blw xs g).length).length : Int) = ((blw xs g).length : Int))) = okT xs xb g := by
  unfold okT
  rw [fltr_filter (bld xs xb) (blw xs g) (extr_nodup _ _ _) _ (Nat.le_refl _), List.take_length]
  congr 1
  · rw [decide_eq_decide]; omega
  · rw [Bool.eq_iff_iff, decide_eq_true_eq, List.all_eq_true]
    constructor
    · intro h
      exact List.length_filter_eq_length_iff.1 (by omega)
    · intro h
      rw [List.filter_eq_self.2 h]
end Gu
end Go.Fw
namespace Go.Fw
namespace Gu
/-- Bit i of a set. -/
def bitB (s i : Int) : Bool := decide (iand (s / 2 ^ i.toNat) 1 = 1)
def size (s : Int) : Nat → Int
  | 0 => 0
  | k + 1 => if bitB s k then size s k + 1 else size s k
theorem size_le (s : Int) : ∀ k, 0 ≤ size s k ∧ size s k ≤ k
  | 0 => by simp [size]
  | k + 1 => by
    have := size_le s k
    unfold size
    split <;> omega
end Gu
end Go.Fw
end

section
namespace Go.Fw.Gu
/-- The marks of some sets. -/
def mkB (xs sets : List Int) : Nat → List Bool
  | 0 => List.replicate xs.length false
  | k + 1 => if 0 ≤ ixF (fun y => decide (sets.getD k 0 = y)) xs then (mkB xs sets k).set (ixF (fun y => decide (sets.getD k 0 = y)) xs).toNat true else mkB xs sets k
theorem mkB_len (xs sets : List Int) : ∀ k, (mkB xs sets k).length = xs.length
  | 0 => by simp [mkB]
  | k + 1 => by
    rw [mkB]
    split
    · rw [List.length_set, mkB_len]
    · exact mkB_len xs sets k
theorem mkB_step {xs sets : List Int} {k : Nat} (h : 0 ≤ ixF (fun y => decide (sets.getD k 0 = y)) xs) : mkB xs sets (k + 1) = (mkB xs sets k).set (ixF (fun y => decide (sets.getD k 0 = y)) xs).toNat true := by rw [mkB, if_pos h]
theorem mkB_stay {xs sets : List Int} {k : Nat} (h : ¬ 0 ≤ ixF (fun y => decide (sets.getD k 0 = y)) xs) : mkB xs sets (k + 1) = mkB xs sets k := by rw [mkB, if_neg h]
def exX : List Int := [0, 1, 4, 3, 5, 7]
def exB (b : Bool) : List Bool := [true, true, b, true, true, true]
end Go.Fw.Gu
namespace Go.Fw.Gu
end Go.Fw.Gu
end

section
/-! the order of sets, and what is minimal -/
namespace Go.Fw.Gu
def R64 (x : Int) : Prop := -9223372036854775808 ≤ x ∧ x ≤ 9223372036854775807
end Go.Fw.Gu
namespace Go.Fw.Gu
/-! ### sorted -/
def Fam (xs : List Int) : Prop := xs.Nodup ∧ (∀ x ∈ xs, 0 ≤ x ∧ x < 32) ∧ xs.Pairwise fun a b => size a 64 ≤ size b 64
theorem ins_lo {ys : List Int} {x k : Int} (hk : 0 < k) (h : size x 64 < size (ys.getD (k - 1).toNat 0) 64 ∨ size (ys.getD (k - 1).toNat 0) 64 = size x 64 ∧ x < ys.getD (k - 1).toNat 0) (hlo : ∀ j, k.toNat ≤ j → j < ys.length → size x 64 ≤ size (ys.getD j 0) 64) : ∀ j, (k - 1).toNat ≤ j → j < ys.length → size x 64 ≤ size (ys.getD j 0) 64 := fun j h1 h2 => by
  by_cases hj : k.toNat ≤ j
  · exact hlo j hj h2
  · obtain rfl : j = (k - 1).toNat := by omega
    rcases h with h | h <;> omega
theorem ins_hi {ys : List Int} {x k : Int} (h0 : 0 ≤ k) (h : ¬ 0 < k ∨ ¬ size x 64 < size (ys.getD (k - 1).toNat 0) 64 ∧ (¬ size (ys.getD (k - 1).toNat 0) 64 = size x 64 ∨ ¬ x < ys.getD (k - 1).toNat 0)) : k.toNat = 0 ∨ size (ys.getD (k.toNat - 1) 0) 64 ≤ size x 64 := by
  by_cases hk : k ≤ 0
  · left; omega
  · right
    rcases h with h | h
    · omega
    · rw [show k.toNat - 1 = (k - 1).toNat by omega]
      omega
theorem ins_sorted {s : Int → Int} {ys : List Int} {x : Int} {k : Nat} (h : ys.Pairwise fun a b => s a ≤ s b) (hk : k ≤ ys.length) (h1 : k = 0 ∨ s (ys.getD (k - 1) 0) ≤ s x) (h2 : ∀ j, k ≤ j → j < ys.length → s x ≤ s (ys.getD j 0)) : (ys.take k ++ [x] ++ ys.drop k).Pairwise fun a b => s a ≤ s b := by
  have hp := List.pairwise_iff_getElem.1 h
  have ha : ∀ a ∈ ys.take k, s a ≤ s x := fun a ha => by
    obtain ⟨i, hi, rfl⟩ := List.mem_iff_getElem.1 ha
    rw [List.length_take] at hi
    rw [List.getElem_take]
    rcases h1 with h1 | h1
    · omega
    · have e : ys.getD (k - 1) 0 = ys[k - 1] := by rw [List.getD_eq_getElem?_getD, List.getElem?_eq_getElem (by omega)]; rfl
      rw [e] at h1
      by_cases hik : i = k - 1
      · subst hik; exact h1
      · have := hp i (k - 1) (by omega) (by omega) (by omega)
        omega
  have hb : ∀ b ∈ ys.drop k, s x ≤ s b := fun b hb => by
    obtain ⟨i, hi, rfl⟩ := List.mem_iff_getElem.1 hb
    rw [List.length_drop] at hi
    rw [List.getElem_drop]
    have := h2 (k + i) (by omega) (by omega)
    rwa [List.getD_eq_getElem?_getD, List.getElem?_eq_getElem (by omega)] at this
  have hab : ∀ a ∈ ys.take k, ∀ b ∈ ys.drop k, s a ≤ s b := fun a h3 b h4 => Int.le_trans (ha a h3) (hb b h4)
  rw [List.pairwise_append, List.pairwise_append]
  refine ⟨⟨h.sublist (List.take_sublist k ys), List.pairwise_singleton _ _, fun a h3 b h4 => by rw [List.mem_singleton.1 h4]; exact ha a h3⟩, h.sublist (List.drop_sublist k ys), fun a h3 b h4 => ?_⟩
  rcases List.mem_append.1 h3 with h3 | h3
  · exact hab a h3 b h4
  · rw [List.mem_singleton.1 h3]; exact hb b h4
theorem ins_perm {ys l : List Int} {i k : Nat} (h : ys.Perm (l.take i)) (hi : i < l.length) : (ys.take k ++ [l.getD i 0] ++ ys.drop k).Perm (l.take (i + 1)) := by
  rw [take_snoc' hi]
  refine List.Perm.trans ?_ (h.append_right _)
  rw [List.append_assoc]
  refine List.Perm.trans (List.Perm.append_left _ List.perm_append_comm) ?_
  rw [← List.append_assoc, List.take_append_drop]
theorem fam_of {xs ys : List Int} (hp : xs.Perm ys) (ho : xs.Pairwise fun a b => size a 64 ≤ size b 64) (hl : ys.Pairwise fun a b => a < b) (hm : ∀ y ∈ ys, 0 ≤ y ∧ y < 32) : Fam xs :=
  ⟨hp.nodup_iff.2 (hl.imp fun h => by omega), fun x hx => hm x (hp.mem_iff.1 hx), ho⟩
end Go.Fw.Gu
end

section
/-! what the laws All, Either and More say, in plain words -/
namespace Go.Fw.Gu
end Go.Fw.Gu
end

section
/-! one more marked set -/
namespace Go.Fw.Gu
variable {xs : List Int} {M : List Bool} {k : Nat}
variable (hn : xs.Nodup) (hr : ∀ x ∈ xs, R64 x) (hk : k < xs.length) (hkM : k < M.length) (hu : M.getD k false = false)
include hn hr hk hkM hu
end Go.Fw.Gu
end

section
/-! the part of a lattice that is in one set -/
namespace Go.Fw.Gu
def ptX (xs : List Int) (s : Int) : Nat → List Int
  | 0 => []
  | k + 1 => if wi (xs.getD k 0) s then ptX xs s k ++ [xs.getD k 0] else ptX xs s k
def ptB (xs : List Int) (s : Int) (bs : List Bool) : Nat → List Bool
  | 0 => []
  | k + 1 => if wi (xs.getD k 0) s then ptB xs s bs k ++ [bs.getD k false] else ptB xs s bs k
end Go.Fw.Gu
namespace Go.Fw.Gu
end Go.Fw.Gu
end

section
/-! hidden sets, sets kept closed, sets guilty together -/
namespace Go.Fw.Gu
/-- Badness kept by further edits, among the first i sets. -/
def Up (xs : List Int) (xb M : List Bool) (i : Nat) : Prop := ∀ a, a < i → ∀ k, k < a → xb.getD a false = true → M.getD k false = true → wi (xs.getD k 0) (xs.getD a 0) = true → M.getD a false = true
/-- The same of one set, against the first k. -/
def Upk (xs : List Int) (xb M : List Bool) (a k : Nat) : Prop := ∀ j, j < k → xb.getD a false = true → M.getD j false = true → wi (xs.getD j 0) (xs.getD a 0) = true → M.getD a false = true
def sizeT (x : Int) : Int := [0,1,1,2,1,2,2,3,1,2,2,3,2,3,3,4,1,2,2,3,2,3,3,4,2,3,3,4,3,4,4,5].getD x.toNat 0
section
variable {xs : List Int} {xb M : List Bool} (hn : xs.Nodup) (hr : ∀ x ∈ xs, R64 x) (hf : fitsB xs.length xb M = true)
include hn hf
end
end Go.Fw.Gu
namespace Go.Fw.Gu
end Go.Fw.Gu
end

section
/-! keys, classes, proofs -/
namespace Go.Fw.Gu
/-- A list of n numbers, the first i of which are told. -/
def pm (f : Nat → Int) (n i : Nat) : List Int := (List.range n).map fun j => if j < i then f j else 0
theorem pm_len (f : Nat → Int) (n i : Nat) : (pm f n i).length = n := by simp [pm]
theorem pm_0 (f : Nat → Int) (n : Nat) : List.replicate n (0 : Int) = pm f n 0 := by
  apply List.ext_getElem (by simp [pm])
  intro j h1 h2
  simp [pm]
theorem pm_set {f : Nat → Int} {n i : Nat} : (pm f n i).set i (f i) = pm f n (i + 1) := by
  apply List.ext_getElem (by simp [pm])
  intro j h1 h2
  rw [List.getElem_set]
  simp only [pm, List.getElem_map, List.getElem_range]
  by_cases h : i = j
  · subst h; simp
  · rw [if_neg h]
    by_cases h3 : j < i
    · rw [if_pos h3, if_pos (by omega)]
    · rw [if_neg h3, if_neg (by omega)]
theorem pm_stay {f : Nat → Int} {n i : Nat} (h : f i = 0) : pm f n i = pm f n (i + 1) := by
  apply List.map_congr_left
  intro j hj
  by_cases h1 : j < i
  · rw [if_pos h1, if_pos (by omega)]
  · by_cases h2 : j = i
    · subst h2; rw [if_neg h1, if_pos (by omega), h]
    · rw [if_neg h1, if_neg (by omega)]
theorem pm_get {f : Nat → Int} {n j : Nat} (h : j < n) : (pm f n n).getD j 0 = f j := by
  rw [List.getD_eq_getElem?_getD, List.getElem?_eq_getElem (by rw [pm_len]; exact h)]
  simp [pm, h]
/-- The first element of a class, among the first i. -/
def fstB (xb : List Bool) (ks : List (List UInt8)) (i : Nat) (key : List UInt8) : Option Nat := (List.range i).find? fun j => xb.getD j false && decide (ks.getD j [] = key)
def clsAt (xb : List Bool) (ks : List (List UInt8)) (i : Nat) : Int := if xb.getD i false then ((fstB xb ks (i + 1) (ks.getD i [])).map Int.ofNat).getD (-1) else -1
def cls (xb : List Bool) (ks : List (List UInt8)) : List Int := pm (clsAt xb ks) ks.length ks.length
theorem fstB_succ (xb : List Bool) (ks : List (List UInt8)) (i : Nat) (key : List UInt8) : fstB xb ks (i + 1) key = (fstB xb ks i key).or (if xb.getD i false && decide (ks.getD i [] = key) then some i else none) := by
  unfold fstB
  rw [List.range_succ, List.find?_append]
  congr 1
  rw [List.find?_cons, List.find?_nil]
  cases (xb.getD i false && decide (ks.getD i [] = key)) <;> rfl
theorem fstB_no {xb : List Bool} {ks : List (List UInt8)} {i : Nat} {key : List UInt8} (h : xb.getD i false = false) : fstB xb ks (i + 1) key = fstB xb ks i key := by
  rw [fstB_succ, h]; simp
theorem fstB_old {xb : List Bool} {ks : List (List UInt8)} {i : Nat} (h : (fstB xb ks i (ks.getD i [])).isSome = true) (key : List UInt8) : fstB xb ks (i + 1) key = fstB xb ks i key := by
  rw [fstB_succ]
  by_cases hk : ks.getD i [] = key
  · subst hk
    obtain ⟨j, hj⟩ := Option.isSome_iff_exists.1 h
    rw [hj]; rfl
  · rw [decide_eq_false hk, Bool.and_false]; simp
theorem fstB_new {xb : List Bool} {ks : List (List UInt8)} {i : Nat} (hb : xb.getD i false = true) (h : (fstB xb ks i (ks.getD i [])).isSome = false) (key : List UInt8) : fstB xb ks (i + 1) key = if key = ks.getD i [] then some i else fstB xb ks i key := by
  rw [fstB_succ, hb]
  by_cases hk : key = ks.getD i []
  · subst hk
    rw [Option.isSome_eq_false_iff, Option.isNone_iff_eq_none] at h
    rw [h, if_pos rfl]
    simp
  · rw [if_neg hk]
    have : ¬ ks.getD i [] = key := fun e => hk e.symm
    simp only [this, decide_false, Bool.and_false, Bool.false_eq_true, if_false, Option.or_none]
theorem clsAt_no {xb : List Bool} {ks : List (List UInt8)} {i : Nat} (h : xb.getD i false = false) : clsAt xb ks i = -1 := by unfold clsAt; rw [if_neg (by rw [h]; decide)]
theorem clsAt_new {xb : List Bool} {ks : List (List UInt8)} {i : Nat} (hb : xb.getD i false = true) (h : (fstB xb ks i (ks.getD i [])).isSome = false) : clsAt xb ks i = i := by
  unfold clsAt
  rw [if_pos hb, fstB_new hb h, if_pos rfl]
  rfl
theorem clsAt_old {xb : List Bool} {ks : List (List UInt8)} {i j : Nat} (hb : xb.getD i false = true) (h : fstB xb ks i (ks.getD i []) = some j) : clsAt xb ks i = j := by
  unfold clsAt
  rw [if_pos hb, fstB_old (by rw [h]; rfl), h]
  rfl
/-- What a map of the firsts holds. -/
def FstM (xb : List Bool) (ks : List (List UInt8)) (i : Nat) (ml : List (List UInt8 × Value)) : Prop := (∀ p ∈ ml, p.1.length = 16) ∧ ∀ key, aget ml key = (fstB xb ks i key).map fun j => vi (j : Int)
theorem FstM.start (xb : List Bool) (ks : List (List UInt8)) : FstM xb ks 0 [] := ⟨fun p h => (by cases h), fun key => rfl⟩
theorem FstM.no {xb : List Bool} {ks : List (List UInt8)} {i : Nat} {ml : List (List UInt8 × Value)} (h : FstM xb ks i ml) (hb : xb.getD i false = false) : FstM xb ks (i + 1) ml := ⟨h.1, fun key => by rw [fstB_no hb]; exact h.2 key⟩
theorem FstM.isS {xb : List Bool} {ks : List (List UInt8)} {i : Nat} {ml : List (List UInt8 × Value)} (h : FstM xb ks i ml) : (aget ml (ks.getD i [])).isSome = (fstB xb ks i (ks.getD i [])).isSome := by rw [h.2]; cases fstB xb ks i (ks.getD i []) <;> rfl
theorem FstM.old {xb : List Bool} {ks : List (List UInt8)} {i : Nat} {ml : List (List UInt8 × Value)} (h : FstM xb ks i ml) (hb : xb.getD i false = true) (hs : (aget ml (ks.getD i [])).isSome = true) : FstM xb ks (i + 1) ml ∧ aget ml (ks.getD i []) = Option.some (vi (clsAt xb ks i)) := by
  rw [h.isS] at hs
  refine ⟨⟨h.1, fun key => by rw [fstB_old hs]; exact h.2 key⟩, ?_⟩
  obtain ⟨j, hj⟩ := Option.isSome_iff_exists.1 hs
  rw [h.2, hj, clsAt_old hb hj]
  rfl
theorem aset_mem {a : List UInt8} {v : Value} : ∀ {l : List (List UInt8 × Value)} {p}, p ∈ aset a v l → p = (a, v) ∨ p ∈ l
  | [], p, h => by simp [aset] at h; exact .inl h
  | q :: l, p, h => by
    rw [aset] at h
    split at h
    · rcases List.mem_cons.1 h with h | h
      · exact .inl h
      · exact .inr (List.mem_cons_of_mem _ h)
    · rcases List.mem_cons.1 h with h | h
      · exact .inr (by rw [h]; simp)
      · rcases aset_mem h with h | h
        · exact .inl h
        · exact .inr (List.mem_cons_of_mem _ h)
theorem FstM.new {xb : List Bool} {ks : List (List UInt8)} {i : Nat} {ml : List (List UInt8 × Value)} (h : FstM xb ks i ml) (hk : (ks.getD i []).length = 16) (hb : xb.getD i false = true) (hs : (aget ml (ks.getD i [])).isSome = false) : FstM xb ks (i + 1) (aset (ks.getD i []) (vi (i : Int)) ml) ∧ clsAt xb ks i = i ∧ aget (aset (ks.getD i []) (vi (i : Int)) ml) (ks.getD i []) = Option.some (vi (i : Int)) := by
  rw [h.isS] at hs
  refine ⟨⟨fun p hp => ?_, fun key => ?_⟩, clsAt_new hb hs, by rw [aget_aset, if_pos rfl]⟩
  · rcases aset_mem hp with rfl | hp
    · exact hk
    · exact h.1 p hp
  · rw [aget_aset, fstB_new hb hs]
    split
    · rfl
    · exact h.2 key
end Go.Fw.Gu
namespace Go.Fw.Gu
/-- A key made of a number. -/
def kyd (m : List Int) (i : Int) : List UInt8 := ofb (atN m i 6) :: List.replicate 15 0
def kys (m : List Int) (n : Nat) : List (List UInt8) := (List.range n).map fun (j : Nat) => kyd m (j : Int)
theorem kys_len (m : List Int) (n : Nat) : (kys m n).length = n := by simp [kys]
theorem kys_16 (m : List Int) (n : Nat) : ∀ x ∈ kys m n, x.length = 16 := fun x hx => by
  obtain ⟨j, _, rfl⟩ := List.mem_map.1 hx
  simp [kyd]
theorem kys_succ (m : List Int) (n : Nat) : kys m (n + 1) = kys m n ++ [kyd m (n : Int)] := by simp [kys, List.range_succ]
end Go.Fw.Gu
namespace Go.Fw.Gu
theorem fstB_lt {xb : List Bool} {ks : List (List UInt8)} {i : Nat} {key : List UInt8} {j : Nat} (h : fstB xb ks i key = some j) : j < i ∧ xb.getD j false = true ∧ ks.getD j [] = key := by
  unfold fstB at h
  have h1 := List.mem_of_find?_eq_some h
  have h2 := List.find?_some h
  rw [Bool.and_eq_true, decide_eq_true_eq] at h2
  exact ⟨List.mem_range.1 h1, h2.1, h2.2⟩
theorem clsAt_rng (xb : List Bool) (ks : List (List UInt8)) (i : Nat) : -1 ≤ clsAt xb ks i ∧ clsAt xb ks i ≤ i := by
  unfold clsAt
  split
  · cases h : fstB xb ks (i + 1) (ks.getD i []) with
    | none => simp
    | some j => have := (fstB_lt h).1; simp; omega
  · omega
theorem cls_rng {xb : List Bool} {ks : List (List UInt8)} (hn : ks.length < 1048576) : ∀ x ∈ cls xb ks, -9223372036854775808 ≤ x ∧ x ≤ 9223372036854775807 := fun x hx => by
  unfold cls pm at hx
  obtain ⟨j, hj, rfl⟩ := List.mem_map.1 hx
  have h1 := clsAt_rng xb ks j
  have := List.mem_range.1 hj
  split <;> omega
end Go.Fw.Gu
namespace Go.Fw.Gu
/-- Whether a class has unequal marks. -/
def dif (xb : List Bool) (ks : List (List UInt8)) (bs : List Bool) (i : Nat) : Bool := decide (0 ≤ clsAt xb ks i) && (bs.getD (clsAt xb ks i).toNat false != bs.getD i false)
/-- What Prove returns: sets, firsts, marks, the error. -/
def pv (xs : List Int) (xb : List Bool) (ks : List (List UInt8)) (bs : List Bool) : List Int × List Int × List Bool × Int :=
  if fitsB xs.length xb bs = true then
    if ks.length = xs.length then
      if ((List.range ks.length).any fun i => dif xb ks bs i) = true then ([], [], [], 16) else (gl xs xb bs, cls xb ks, bs, 0)
    else ([], [], [], 1)
  else ([], [], [], 1)
theorem pv_1 {xs : List Int} {xb : List Bool} {ks : List (List UInt8)} {bs : List Bool} (h : fitsB xs.length xb bs = false) : pv xs xb ks bs = ([], [], [], 1) := by unfold pv; rw [if_neg (by rw [h]; decide)]
theorem pv_2 {xs : List Int} {xb : List Bool} {ks : List (List UInt8)} {bs : List Bool} (h : fitsB xs.length xb bs = true) (h2 : ¬ (ks.length : Int) = xs.length) : pv xs xb ks bs = ([], [], [], 1) := by unfold pv; rw [if_pos h, if_neg (fun e => h2 (by rw [e]))]
theorem pv_3 {xs : List Int} {xb : List Bool} {ks : List (List UInt8)} {bs : List Bool} (h : fitsB xs.length xb bs = true) (h2 : (ks.length : Int) = xs.length) {i : Nat} (hi : i < ks.length) (h3 : dif xb ks bs i = true) : pv xs xb ks bs = ([], [], [], 16) := by
  unfold pv
  rw [if_pos h, if_pos (by omega), if_pos (List.any_eq_true.2 ⟨i, List.mem_range.2 hi, h3⟩)]
theorem pv_4 {xs : List Int} {xb : List Bool} {ks : List (List UInt8)} {bs : List Bool} (h : fitsB xs.length xb bs = true) (h2 : (ks.length : Int) = xs.length) (h3 : ∀ i, i < ks.length → dif xb ks bs i = false) : pv xs xb ks bs = (gl xs xb bs, cls xb ks, bs, 0) := by
  unfold pv
  rw [if_pos h, if_pos (by omega), if_neg]
  rw [List.any_eq_true]
  rintro ⟨i, hi, h4⟩
  rw [h3 i (List.mem_range.1 hi)] at h4
  cases h4
theorem cls_get {xb : List Bool} {ks : List (List UInt8)} {i : Nat} (h : i < ks.length) : (cls xb ks).getD i 0 = clsAt xb ks i := pm_get h
theorem cls_len (xb : List Bool) (ks : List (List UInt8)) : (cls xb ks).length = ks.length := pm_len _ _ _
end Go.Fw.Gu
namespace Go.Fw.Gu
theorem dif_t {xb : List Bool} {ks : List (List UInt8)} {bs : List Bool} {i : Nat} (hi : i < ks.length) (h : 0 ≤ (cls xb ks).getD i 0 ∧ (bs.getD ((cls xb ks).getD i 0).toNat false == bs.getD i false) = false) : dif xb ks bs i = true := by
  rw [cls_get hi] at h
  unfold dif
  rw [decide_eq_true h.1, Bool.true_and, bne, h.2]
  rfl
theorem dif_f {xb : List Bool} {ks : List (List UInt8)} {bs : List Bool} {i : Nat} (hi : i < ks.length) (h : ¬ 0 ≤ (cls xb ks).getD i 0 ∨ (bs.getD ((cls xb ks).getD i 0).toNat false == bs.getD i false) = true) : dif xb ks bs i = false := by
  rw [cls_get hi] at h
  unfold dif
  rcases h with h | h
  · rw [decide_eq_false h]; rfl
  · rw [bne, h]; simp
end Go.Fw.Gu
end

section
/-! marks of classes, what is known, what Check says -/
namespace Go.Fw.Gu
def mkq (bits : Int) (b : UInt8) : Bool := !decide ((bits / 2 ^ (min ((ofq (b.toNat : Int)).toNat : Int).toNat 64)).tmod 2 = 0)
def mrkAt (xb : List Bool) (ks : List (List UInt8)) (bits : Int) (j : Nat) : Bool := xb.getD j false && mkq bits ((ks.getD j []).getD 0 0)
def mrk (xb : List Bool) (ks : List (List UInt8)) (bits : Int) : Nat → List Bool
  | 0 => []
  | k + 1 => mrk xb ks bits k ++ [mrkAt xb ks bits k]
theorem mrk_len (xb : List Bool) (ks : List (List UInt8)) (bits : Int) : ∀ k, (mrk xb ks bits k).length = k
  | 0 => rfl
  | k + 1 => by rw [mrk, List.length_append, mrk_len xb ks bits k]; rfl
def knAt (F : List Int) (B : List Bool) (j : Nat) : Int := if F.getD j 0 = (j : Int) then (if B.getD j false then 2 else 1) else 0
def kn (F : List Int) (B : List Bool) : List Int := pm (knAt F B) F.length F.length
theorem knAt_2 {F : List Int} {B : List Bool} {i : Int} (hi : 0 ≤ i) (h : F.getD i.toNat 0 = i ∧ B.getD i.toNat false = true) : knAt F B i.toNat = 2 := by unfold knAt; rw [if_pos (by rw [h.1]; omega), if_pos h.2]
theorem knAt_1 {F : List Int} {B : List Bool} {i : Int} (hi : 0 ≤ i) (h : F.getD i.toNat 0 = i ∧ B.getD i.toNat false = false) : knAt F B i.toNat = 1 := by unfold knAt; rw [if_pos (by rw [h.1]; omega), if_neg (by rw [h.2]; decide)]
theorem knAt_0 {F : List Int} {B : List Bool} {i : Int} (hi : 0 ≤ i) (h1 : ¬ F.getD i.toNat 0 = i ∨ B.getD i.toNat false = false) (h2 : ¬ F.getD i.toNat 0 = i ∨ B.getD i.toNat false = true) : knAt F B i.toNat = 0 := by
  unfold knAt
  by_cases h : F.getD i.toNat 0 = i
  · rcases h1 with h1 | h1
    · exact absurd h h1
    · rcases h2 with h2 | h2
      · exact absurd h h2
      · rw [h1] at h2; cases h2
  · rw [if_neg (by rw [Int.toNat_of_nonneg hi]; exact h)]
theorem knAt_rng (F : List Int) (B : List Bool) (j : Nat) : 0 ≤ knAt F B j ∧ knAt F B j ≤ 2 := by
  unfold knAt
  split
  · split <;> omega
  · omega
theorem kn_rng {F : List Int} {B : List Bool} : ∀ x ∈ kn F B, 0 ≤ x ∧ x ≤ 2 := fun x hx => by
  unfold kn pm at hx
  obtain ⟨j, hj, rfl⟩ := List.mem_map.1 hx
  have := knAt_rng F B j
  split <;> omega
def ckm (k : Int) : Bool := decide (k < 0) || decide (2 < k)
def ckd (xb : List Bool) (ks : List (List UInt8)) (K : List Int) (B : List Bool) (i : Nat) : Bool := decide (0 ≤ clsAt xb ks i) && (decide (K.getD (clsAt xb ks i).toNat 0 = 0) || !(decide (K.getD (clsAt xb ks i).toNat 0 = 2) == B.getD i false))
/-- What Check returns. -/
def chk (xs : List Int) (xb : List Bool) (ks : List (List UInt8)) (K S F : List Int) (B : List Bool) : Int :=
  if (xb.length = xs.length ∧ ks.length = xs.length ∧ K.length = xs.length) ∧ K.any ckm = false then
    if (ge xs xb B = 0 ∧ gl xs xb B = S) ∧ cls xb ks = F then
      if ((List.range ks.length).any fun i => ckd xb ks K B i) = true then 17 else 0
    else 17
  else 1
section
variable {xs : List Int} {xb : List Bool} {ks : List (List UInt8)} {K S F : List Int} {B : List Bool}
theorem chk_1 (h : ¬ ((xb.length = xs.length ∧ ks.length = xs.length ∧ K.length = xs.length) ∧ K.any ckm = false)) : chk xs xb ks K S F B = 1 := by unfold chk; rw [if_neg h]
theorem chk_2 (h : (xb.length = xs.length ∧ ks.length = xs.length ∧ K.length = xs.length) ∧ K.any ckm = false) (h2 : ¬ ((ge xs xb B = 0 ∧ gl xs xb B = S) ∧ cls xb ks = F)) : chk xs xb ks K S F B = 17 := by unfold chk; rw [if_pos h, if_neg h2]
theorem chk_3 (h : (xb.length = xs.length ∧ ks.length = xs.length ∧ K.length = xs.length) ∧ K.any ckm = false) (h2 : (ge xs xb B = 0 ∧ gl xs xb B = S) ∧ cls xb ks = F) {i : Nat} (hi : i < ks.length) (h3 : ckd xb ks K B i = true) : chk xs xb ks K S F B = 17 := by
  unfold chk
  rw [if_pos h, if_pos h2, if_pos (List.any_eq_true.2 ⟨i, List.mem_range.2 hi, h3⟩)]
theorem chk_4 (h : (xb.length = xs.length ∧ ks.length = xs.length ∧ K.length = xs.length) ∧ K.any ckm = false) (h2 : (ge xs xb B = 0 ∧ gl xs xb B = S) ∧ cls xb ks = F) (h3 : ∀ i, i < ks.length → ckd xb ks K B i = false) : chk xs xb ks K S F B = 0 := by
  unfold chk
  rw [if_pos h, if_pos h2, if_neg]
  rw [List.any_eq_true]
  rintro ⟨i, hi, h4⟩
  rw [h3 i (List.mem_range.1 hi)] at h4
  cases h4
end
end Go.Fw.Gu
namespace Go.Fw.Gu
theorem ckd_t {xb : List Bool} {ks : List (List UInt8)} {K : List Int} {B : List Bool} {i : Nat} (hi : i < ks.length) (h : 0 ≤ (cls xb ks).getD i 0 ∧ (K.getD ((cls xb ks).getD i 0).toNat 0 = 0 ∨ (decide (K.getD ((cls xb ks).getD i 0).toNat 0 = 2) == B.getD i false) = false)) : ckd xb ks K B i = true := by
  rw [cls_get hi] at h
  unfold ckd
  rw [decide_eq_true h.1, Bool.true_and, Bool.or_eq_true]
  rcases h.2 with h | h
  · exact .inl (decide_eq_true h)
  · right; rw [h]; rfl
theorem ckd_f {xb : List Bool} {ks : List (List UInt8)} {K : List Int} {B : List Bool} {i : Nat} (hi : i < ks.length) (h : ¬ 0 ≤ (cls xb ks).getD i 0 ∨ (¬ K.getD ((cls xb ks).getD i 0).toNat 0 = 0 ∧ (decide (K.getD ((cls xb ks).getD i 0).toNat 0 = 2) == B.getD i false) = true)) : ckd xb ks K B i = false := by
  rw [cls_get hi] at h
  unfold ckd
  rcases h with h | ⟨h1, h2⟩
  · rw [decide_eq_false h]; rfl
  · rw [decide_eq_false h1, h2]; simp
end Go.Fw.Gu
end

section
/-! a proof with something changed -/
namespace Go.Fw.Gu
def bK (B : List Bool) (b : Int) : Int := arnd b (max (B.length : Int) 1)
def bS (S : List Int) (h b : Int) : List Int := if arnd h 6 = 2 then S.tail else if arnd h 6 = 3 then S ++ [arnd b 32] else S
def bF (F : List Int) (B : List Bool) (h b : Int) : List Int :=
  if arnd h 6 = 1 then (if bK B b < F.length then F.set (bK B b).toNat (arnd b ((F.length : Int) + 2) - 1) else F)
  else if arnd h 6 = 5 then F ++ [b] else F
def bB (B : List Bool) (h b : Int) : List Bool :=
  if arnd h 6 = 0 then (if bK B b < B.length then B.set (bK B b).toNat (!B.getD (bK B b).toNat false) else B)
  else if arnd h 6 = 4 then B ++ [decide (b.tmod 2 = 0)] else B
section
variable {S F : List Int} {B : List Bool} {h b : Int}
theorem bS_o (h1 : ¬ arnd h 6 = 2) (h2 : ¬ arnd h 6 = 3) : bS S h b = S := by unfold bS; rw [if_neg h1, if_neg h2]
theorem bS_2 (h1 : arnd h 6 = 2) : bS S h b = S.tail := by unfold bS; rw [if_pos h1]
theorem bS_3 (h1 : arnd h 6 = 3) : bS S h b = S ++ [arnd b 32] := by unfold bS; rw [if_neg (by omega), if_pos h1]
theorem bF_o (h1 : ¬ arnd h 6 = 1) (h2 : ¬ arnd h 6 = 5) : bF F B h b = F := by unfold bF; rw [if_neg h1, if_neg h2]
theorem bF_1 (h1 : arnd h 6 = 1) (h2 : bK B b < F.length) : bF F B h b = F.set (bK B b).toNat (arnd b ((F.length : Int) + 2) - 1) := by unfold bF; rw [if_pos h1, if_pos h2]
theorem bF_1' (h1 : arnd h 6 = 1) (h2 : ¬ bK B b < F.length) : bF F B h b = F := by unfold bF; rw [if_pos h1, if_neg h2]
theorem bF_5 (h1 : arnd h 6 = 5) : bF F B h b = F ++ [b] := by unfold bF; rw [if_neg (by omega), if_pos h1]
theorem bB_o (h1 : ¬ arnd h 6 = 0) (h2 : ¬ arnd h 6 = 4) : bB B h b = B := by unfold bB; rw [if_neg h1, if_neg h2]
theorem bB_0 (h1 : arnd h 6 = 0) (h2 : bK B b < B.length) : bB B h b = B.set (bK B b).toNat (!B.getD (bK B b).toNat false) := by unfold bB; rw [if_pos h1, if_pos h2]
theorem bB_0' (h1 : arnd h 6 = 0) (h2 : ¬ bK B b < B.length) : bB B h b = B := by unfold bB; rw [if_pos h1, if_neg h2]
theorem bB_4 (h1 : arnd h 6 = 4) : bB B h b = B ++ [decide (b.tmod 2 = 0)] := by unfold bB; rw [if_neg (by omega), if_pos h1]
end
theorem rg_set {F : List Int} {a c : Int} (hF : ∀ x ∈ F, a ≤ x ∧ x ≤ c) {k : Nat} {v : Int} (hv : a ≤ v ∧ v ≤ c) : ∀ x ∈ F.set k v, a ≤ x ∧ x ≤ c := fun x hx => by
  rcases List.mem_or_eq_of_mem_set hx with h | rfl
  · exact hF x h
  · exact hv
theorem rg_app {F : List Int} {a c : Int} (hF : ∀ x ∈ F, a ≤ x ∧ x ≤ c) {v : Int} (hv : a ≤ v ∧ v ≤ c) : ∀ x ∈ F ++ [v], a ≤ x ∧ x ≤ c := fun x hx => by
  rcases List.mem_append.1 hx with h | h
  · exact hF x h
  · rw [List.mem_singleton.1 h]; exact hv
end Go.Fw.Gu
end

section
/-! what Check says of a proof with something changed -/
namespace Go.Fw.Gu
theorem kn_len (F : List Int) (B : List Bool) : (kn F B).length = F.length := pm_len _ _ _
section
variable {xs : List Int} {xb : List Bool} {ks : List (List UInt8)} {M : List Bool}
end
end Go.Fw.Gu
end

section
/-! the reference's classes, proof and check -/
namespace Go.Fw.Gu
theorem fstB_none {xb : List Bool} {ks : List (List UInt8)} {n : Nat} {key : List UInt8} (h : ∀ j, j < n → (xb.getD j false && decide (ks.getD j [] = key)) = false) : fstB xb ks n key = none := by
  unfold fstB
  rw [List.find?_eq_none]
  intro j hj
  rw [h j (List.mem_range.1 hj)]
  decide
theorem clsAt_ref {xb : List Bool} {ks : List (List UInt8)} {i k : Nat} (hb : xb.getD i false = true) (hk : k ≤ i) (h : ∀ j, j < k → (xb.getD j false && decide (ks.getD j [] = ks.getD i [])) = false) (he : k = i ∨ (xb.getD k false && decide (ks.getD k [] = ks.getD i [])) = true) : clsAt xb ks i = k := by
  have hp : (xb.getD k false && decide (ks.getD k [] = ks.getD i [])) = true := by
    rcases he with rfl | he
    · rw [hb]; simp
    · exact he
  have h1 : fstB xb ks (k + 1) (ks.getD i []) = some k := by
    rw [fstB_succ, fstB_none h, if_pos hp]
    rfl
  have h2 : ∀ d, fstB xb ks (k + 1 + d) (ks.getD i []) = some k := by
    intro d
    induction d with
    | zero => exact h1
    | succ d ih => rw [show k + 1 + (d + 1) = (k + 1 + d) + 1 by omega, fstB_succ, ih]; rfl
  unfold clsAt
  rw [if_pos hb, show i + 1 = k + 1 + (i - k) by omega, h2]
  rfl
/-- The classes of the first i. -/
def clsL (xb : List Bool) (ks : List (List UInt8)) (i : Nat) : List Int := (List.range i).map (clsAt xb ks)
theorem clsL_succ (xb : List Bool) (ks : List (List UInt8)) (i : Nat) : clsL xb ks (i + 1) = clsL xb ks i ++ [clsAt xb ks i] := by simp [clsL, List.range_succ]
theorem clsL_all (xb : List Bool) (ks : List (List UInt8)) : clsL xb ks ks.length = cls xb ks := by
  unfold clsL cls pm
  apply List.map_congr_left
  intro j hj
  rw [if_pos (List.mem_range.1 hj)]
theorem ckm_any {K : List Int} {i : Int} (hi : i < K.length) (h0 : 0 ≤ i) (h : K.getD i.toNat 0 < 0 ∨ 2 < K.getD i.toNat 0) : K.any ckm = true := by
  refine List.any_eq_true.2 ⟨K.getD i.toNat 0, getD_mem' (by omega), ?_⟩
  unfold ckm
  simp only [Bool.or_eq_true, decide_eq_true_eq]
  exact h
theorem ckm_none {K : List Int} (h : ∀ j, j < K.length → ckm (K.getD j 0) = false) : K.any ckm = false := List.any_eq_false.2 fun x hx => by
  obtain ⟨j, hj, rfl⟩ := List.mem_iff_getElem.1 hx
  have := h j hj
  rw [List.getD_eq_getElem?_getD, List.getElem?_eq_getElem hj] at this
  simpa using this
theorem ckm_at {K : List Int} (h : K.any ckm = false) {j : Nat} (hj : j < K.length) : 0 ≤ K.getD j 0 ∧ K.getD j 0 ≤ 2 := by
  have := List.any_eq_false.1 h (K.getD j 0) (getD_mem' hj)
  unfold ckm at this
  simp only [Bool.or_eq_true, decide_eq_true_eq] at this
  omega
theorem ckm_f {k : Int} (h : 0 ≤ k ∧ k ≤ 2) : ckm k = false := by
  unfold ckm
  rw [decide_eq_false (by omega), decide_eq_false (by omega)]
  rfl
theorem ckd_rt {xb : List Bool} {ks : List (List UInt8)} {K : List Int} {B : List Bool} {i : Nat} (hi : i < ks.length) {wt : Int} (hw : wt = if B.getD i false = true then 2 else 1) (h : 0 ≤ (cls xb ks).getD i 0 ∧ ¬ K.getD (max ((cls xb ks).getD i 0) 0).toNat 0 = wt) (hr : 0 ≤ K.getD (max ((cls xb ks).getD i 0) 0).toNat 0 ∧ K.getD (max ((cls xb ks).getD i 0) 0).toNat 0 ≤ 2) : ckd xb ks K B i = true := by
  rw [Int.max_eq_left h.1] at h hr
  refine ckd_t hi ⟨h.1, ?_⟩
  by_cases h0 : K.getD ((cls xb ks).getD i 0).toNat 0 = 0
  · exact .inl h0
  · right
    generalize K.getD ((cls xb ks).getD i 0).toNat 0 = q at h hr h0
    cases hb : B.getD i false
    · rw [hb] at hw
      have : q = 2 := by simp at hw; omega
      subst this; rfl
    · rw [hb] at hw
      have : q = 1 := by simp at hw; omega
      subst this; rfl
theorem ckd_rf {xb : List Bool} {ks : List (List UInt8)} {K : List Int} {B : List Bool} {i : Nat} (hi : i < ks.length) {wt : Int} (hw : wt = if B.getD i false = true then 2 else 1) (h : ¬ 0 ≤ (cls xb ks).getD i 0 ∨ K.getD (max ((cls xb ks).getD i 0) 0).toNat 0 = wt) : ckd xb ks K B i = false := by
  by_cases hc : 0 ≤ (cls xb ks).getD i 0
  · rcases h with h | h
    · exact absurd hc h
    rw [Int.max_eq_left hc] at h
    refine ckd_f hi (.inr ?_)
    rw [h, hw]
    cases B.getD i false <;> simp
  · exact ckd_f hi (.inl hc)
end Go.Fw.Gu
end

section
/-! lengths of proofs -/
namespace Go.Fw.Gu
theorem pv_len (xs : List Int) (xb : List Bool) (ks : List (List UInt8)) (bs : List Bool) (hk : ks.length = xs.length) : (pv xs xb ks bs).1.length ≤ xs.length ∧ (pv xs xb ks bs).2.1.length ≤ xs.length ∧ (pv xs xb ks bs).2.2.1.length = (pv xs xb ks bs).2.1.length := by
  by_cases h : fitsB xs.length xb bs = true
  · by_cases h3 : ∀ i, i < ks.length → dif xb ks bs i = false
    · rw [pv_4 h (by omega) h3]
      refine ⟨gl_len _ _ _, ?_, ?_⟩
      · show (cls xb ks).length ≤ _
        rw [cls_len]; omega
      · show bs.length = (cls xb ks).length
        rw [cls_len, hk]; exact (fits_use h).1
    · have : ∃ i, i < ks.length ∧ dif xb ks bs i = true := by
        apply Classical.byContradiction
        intro hn
        exact h3 fun i hi => by
          cases hd : dif xb ks bs i
          · rfl
          · exact absurd ⟨i, hi, hd⟩ hn
      obtain ⟨i, hi, hd⟩ := this
      rw [pv_3 h (by omega) hi hd]
      simp
  · rw [pv_1 (by simpa using h)]
    simp
theorem bent_len (S F : List Int) (B : List Bool) (h b : Int) : (bS S h b).length ≤ S.length + 1 ∧ (bF F B h b).length ≤ F.length + 1 ∧ (bB B h b).length ≤ B.length + 1 := by
  refine ⟨?_, ?_, ?_⟩
  · unfold bS
    split
    · rw [List.length_tail]; omega
    · split
      · rw [List.length_append]; simp
      · omega
  · unfold bF
    split
    · split
      · rw [List.length_set]; omega
      · omega
    · split
      · rw [List.length_append]; simp
      · omega
  · unfold bB
    split
    · split
      · rw [List.length_set]; omega
      · omega
    · split
      · rw [List.length_append]; simp
      · omega
end Go.Fw.Gu
end
