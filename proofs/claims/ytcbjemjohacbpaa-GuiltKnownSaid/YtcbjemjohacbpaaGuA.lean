/- A text of a proof over this seat: walks over the program's functions and the plain laws that they need. -/
import Derived.Test.YtcbjemjohacbpaaFwA
import Derived.Test.YtcbjemjohacbpaaFwC
set_option linter.all false
section
/- Plain laws of the package guilt and what it stands on. -/
namespace Go.Fw
namespace Gu
/-- The first place at which p holds, or -1. -/
def ixF (p : Int → Bool) (xs : List Int) : Int := match xs.findIdx? p with
  | some k => k
  | none => -1
theorem ixF_at {p : Int → Bool} {xs : List Int} {i : Nat} (hi : i < xs.length) (hp : p (xs.getD i 0) = true) (hn : ∀ j, j < i → p (xs.getD j 0) = false) : ixF p xs = i := by
  have : xs.findIdx? p = some i := by
    rw [List.findIdx?_eq_some_iff_getElem]
    refine ⟨hi, by simpa [hi] using hp, fun j hj => ?_⟩
    have := hn j hj
    have hj' : j < xs.length := by omega
    simpa [hj'] using this
  unfold ixF
  rw [this]
theorem ixF_no {p : Int → Bool} {xs : List Int} (hn : ∀ j, j < xs.length → p (xs.getD j 0) = false) : ixF p xs = -1 := by
  have : xs.findIdx? p = none := by
    rw [List.findIdx?_eq_none_iff]
    intro x hx
    obtain ⟨j, hj, rfl⟩ := List.mem_iff_getElem.1 hx
    have := hn j hj
    simpa [hj] using this
  unfold ixF
  rw [this]
theorem ixF_any (p : Int → Bool) (xs : List Int) : decide (0 ≤ ixF p xs) = xs.any p := by
  unfold ixF
  cases h : xs.findIdx? p with
  | none =>
    have h := List.findIdx?_eq_none_iff.1 h
    have : xs.any p = false := List.any_eq_false.2 fun x hx => by simp [h x hx]
    rw [this]; rfl
  | some k =>
    obtain ⟨h1, h2, _⟩ := List.findIdx?_eq_some_iff_getElem.1 h
    have : xs.any p = true := List.any_eq_true.2 ⟨_, List.getElem_mem h1, h2⟩
    rw [this]
    simp
theorem ixF_mem (n : Int) (xs : List Int) : decide (0 ≤ ixF (fun x => decide (n = x)) xs) = decide (n ∈ xs) := by
  rw [ixF_any]
  by_cases h : n ∈ xs
  · rw [decide_eq_true h]
    exact List.any_eq_true.2 ⟨n, h, by simp⟩
  · rw [decide_eq_false h]
    exact List.any_eq_false.2 fun x hx => by simp; rintro rfl; exact h hx
theorem ixF_range (p : Int → Bool) (xs : List Int) : -1 ≤ ixF p xs ∧ ixF p xs < xs.length := by
  unfold ixF
  cases h : xs.findIdx? p with
  | none => simp; omega
  | some k =>
    obtain ⟨h1, _⟩ := List.findIdx?_eq_some_iff_getElem.1 h
    simp; omega
theorem none_step {p : Int → Bool} {xs : List Int} {i : Int} (hi : 0 ≤ i) (hp : p (xs.getD i.toNat 0) = false) (hn : ∀ j, j < i.toNat → p (xs.getD j 0) = false) : ∀ j, j < (i + 1).toNat → p (xs.getD j 0) = false := fun j hj => by
  rcases Nat.lt_or_ge j i.toNat with h | h
  · exact hn j h
  · obtain rfl : j = i.toNat := by omega
    exact hp
/-- The elements that are wanted, each once, among the first k. -/
def fltr (p : Int → Int → Bool) (l : List Int) : Nat → List Int
  | 0 => []
  | k + 1 => if p k (l.getD k 0) && !decide (l.getD k 0 ∈ fltr p l k) then fltr p l k ++ [l.getD k 0] else fltr p l k
theorem fltr_len (p : Int → Int → Bool) (l : List Int) : ∀ k, (fltr p l k).length ≤ k
  | 0 => Nat.le_refl _
  | k + 1 => by
    have := fltr_len p l k
    unfold fltr
    split
    · simp; omega
    · omega
/-- The elements behind which no other one stands, each once, among the first k. -/
def extr (b : Int → Int → Bool) (l : List Int) : Nat → List Int
  | 0 => []
  | k + 1 => if !decide (l.getD k 0 ∈ extr b l k) && !(l.any fun t => !decide (t = l.getD k 0) && b t (l.getD k 0)) then extr b l k ++ [l.getD k 0] else extr b l k
theorem extr_len (b : Int → Int → Bool) (l : List Int) : ∀ k, (extr b l k).length ≤ k
  | 0 => Nat.le_refl _
  | k + 1 => by
    have := extr_len b l k
    unfold extr
    split
    · simp; omega
    · omega
theorem getD_mem' {xs : List Int} {k : Nat} (h : k < xs.length) : xs.getD k 0 ∈ xs := by rw [List.getD_eq_getElem?_getD, List.getElem?_eq_getElem h]; exact List.getElem_mem h
theorem getD_or (xs : List Int) (k : Nat) : xs.getD k 0 ∈ xs ∨ xs.getD k 0 = 0 := by
  rcases Nat.lt_or_ge k xs.length with h | h
  · exact .inl (getD_mem' h)
  · exact .inr (by simp [h])
theorem extr_mem (b : Int → Int → Bool) (l : List Int) : ∀ k, k ≤ l.length → ∀ x ∈ extr b l k, x ∈ l
  | 0, _, x, h => by cases h
  | k + 1, hk, x, h => by
    have ih := extr_mem b l k (by omega) x
    unfold extr at h
    split at h
    · rcases List.mem_append.1 h with h | h
      · exact ih h
      · obtain rfl := List.mem_singleton.1 h
        exact getD_mem' (by omega)
    · exact ih h
theorem fltr_mem (p : Int → Int → Bool) (l : List Int) : ∀ k, k ≤ l.length → ∀ x ∈ fltr p l k, x ∈ l
  | 0, _, x, h => by cases h
  | k + 1, hk, x, h => by
    have ih := fltr_mem p l k (by omega) x
    unfold fltr at h
    split at h
    · rcases List.mem_append.1 h with h | h
      · exact ih h
      · obtain rfl := List.mem_singleton.1 h
        exact getD_mem' (by omega)
    · exact ih h
theorem extr_step (b : Int → Int → Bool) (l : List Int) (k : Nat) (h : (!decide (l.getD k 0 ∈ extr b l k) && !(l.any fun t => !decide (t = l.getD k 0) && b t (l.getD k 0))) = true) : extr b l (k + 1) = extr b l k ++ [l.getD k 0] := by
  rw [extr, if_pos h]
theorem extr_stay (b : Int → Int → Bool) (l : List Int) (k : Nat) (h : (!decide (l.getD k 0 ∈ extr b l k) && !(l.any fun t => !decide (t = l.getD k 0) && b t (l.getD k 0))) = false) : extr b l (k + 1) = extr b l k := by
  rw [extr, if_neg (by rw [h]; decide)]
theorem fltr_step (p : Int → Int → Bool) (l : List Int) (k : Nat) (h : (p k (l.getD k 0) && !decide (l.getD k 0 ∈ fltr p l k)) = true) : fltr p l (k + 1) = fltr p l k ++ [l.getD k 0] := by
  rw [fltr, if_pos h]
theorem fltr_stay (p : Int → Int → Bool) (l : List Int) (k : Nat) (h : (p k (l.getD k 0) && !decide (l.getD k 0 ∈ fltr p l k)) = false) : fltr p l (k + 1) = fltr p l k := by
  rw [fltr, if_neg (by rw [h]; decide)]
/-- One set within another one. -/
def wi (a b : Int) : Bool := decide (iand a b = a)
end Gu
end Go.Fw
end

section
namespace Go.Fw
namespace Ls
theorem take_step {α : Type} (d : α) {a b : List α} {i : Nat} (ha : i < a.length) (hb : i < b.length) (h : a.take i = b.take i) : a.take (i + 1) = b.take (i + 1) ↔ a.getD i d = b.getD i d := by
  rw [List.take_succ_eq_append_getElem ha, List.take_succ_eq_append_getElem hb, h, List.getD_eq_getElem?_getD, List.getD_eq_getElem?_getD, List.getElem?_eq_getElem ha, List.getElem?_eq_getElem hb]
  constructor
  · intro h1
    have := List.append_cancel_left h1
    injection this
  · intro h1
    have h2 : a[i] = b[i] := h1
    rw [h2]
theorem same_len {α : Type} [DecidableEq α] {a b : List α} (h : ¬ (a.length : Int) = b.length) : Value.bool false = .bool (decide (a = b)) := by
  rw [decide_eq_false (fun e => h (by rw [e]))]
theorem same_ne {α : Type} [DecidableEq α] {a b : List α} (d : α) {i : Int} (h : ¬ a.getD i.toNat d = b.getD i.toNat d) : Value.bool false = .bool (decide (a = b)) := by
  rw [decide_eq_false (fun e => h (by rw [e]))]
theorem same_eq {α : Type} [DecidableEq α] {a b : List α} {i : Int} (hl : (a.length : Int) = b.length) (hi : ¬ i < a.length) (h : a.take i.toNat = b.take i.toNat) : Value.bool true = .bool (decide (a = b)) := by
  rw [List.take_of_length_le (by omega), List.take_of_length_le (by omega)] at h
  rw [decide_eq_true h]
theorem same_step {α : Type} (d : α) {a b : List α} {i : Int} (h0 : 0 ≤ i) (ha : i < a.length) (hl : (a.length : Int) = b.length) (he : a.getD i.toNat d = b.getD i.toNat d) (h : a.take i.toNat = b.take i.toNat) : a.take (i + 1).toNat = b.take (i + 1).toNat := by
  rw [show (i + 1).toNat = i.toNat + 1 by omega]
  exact (take_step d (by omega) (by omega) h).2 he
theorem getD_some {α : Type} (d : α) {l : List α} {i : Nat} (h : i < l.length) : l[i]? = some (l.getD i d) := by
  rw [List.getD_eq_getElem?_getD, List.getElem?_eq_getElem h]; rfl
end Ls
end Go.Fw
end

section
namespace Go.Fw
namespace Gu
theorem mem_not {n : Int} {xs : List Int} (h : ∀ j, j < xs.length → xs.getD j 0 ≠ n) : decide (n ∈ xs) = false := decide_eq_false fun hm => by
  obtain ⟨j, hj, rfl⟩ := List.mem_iff_getElem.1 hm
  exact h j hj (by simp [hj])
theorem mem_yes {n : Int} {xs : List Int} {j : Nat} (hj : j < xs.length) (h : xs.getD j 0 = n) : decide (n ∈ xs) = true := decide_eq_true (h ▸ getD_mem' hj)
theorem ne_step {xs : List Int} {n i : Int} (hi : 0 ≤ i) (hp : ¬ xs.getD i.toNat 0 = n) (hn : ∀ j, j < i.toNat → xs.getD j 0 ≠ n) : ∀ j, j < (i + 1).toNat → xs.getD j 0 ≠ n := fun j hj => by
  rcases Nat.lt_or_ge j i.toNat with h | h
  · exact hn j h
  · obtain rfl : j = i.toNat := by omega
    exact hp
/-- Marks fit a lattice of s sets. -/
def fitsB (s : Nat) (xb bs : List Bool) : Bool := decide (bs.length = s) && decide (xb.length = s) && (List.range bs.length).all fun j => !(bs.getD j false && !xb.getD j false)
theorem fits_ne {s : Nat} {xb bs : List Bool} (h : ¬ (bs.length : Int) = s ∨ ¬ (xb.length : Int) = s) : fitsB s xb bs = false := by
  unfold fitsB
  rcases h with h | h
  · rw [decide_eq_false (by omega)]; rfl
  · rw [decide_eq_false (p := xb.length = s) (by omega)]; simp
theorem fits_at {s : Nat} {xb bs : List Bool} {i : Nat} (hi : i < bs.length) (h : (bs.getD i false && !xb.getD i false) = true) : fitsB s xb bs = false := by
  unfold fitsB
  rw [Bool.and_eq_false_iff]
  refine .inr (List.all_eq_false.2 ⟨i, List.mem_range.2 hi, ?_⟩)
  rw [h]; decide
theorem fits_ok {s : Nat} {xb bs : List Bool} (h1 : (bs.length : Int) = s) (h2 : (xb.length : Int) = s) (h : ∀ j, j < bs.length → (bs.getD j false && !xb.getD j false) = false) : fitsB s xb bs = true := by
  unfold fitsB
  rw [decide_eq_true (by omega), decide_eq_true (p := xb.length = s) (by omega)]
  exact List.all_eq_true.2 fun j hj => by rw [h j (List.mem_range.1 hj)]; rfl
theorem fits_use {s : Nat} {xb bs : List Bool} (h : fitsB s xb bs = true) : bs.length = s ∧ xb.length = s ∧ ∀ j, j < bs.length → (bs.getD j false && !xb.getD j false) = false := by
  unfold fitsB at h
  simp only [Bool.and_eq_true, decide_eq_true_eq] at h
  refine ⟨h.1.1, h.1.2, fun j hj => ?_⟩
  have := List.all_eq_true.1 h.2 j (List.mem_range.2 hj)
  simpa only [Bool.not_eq_true'] using this
theorem fit_step {p : Nat → Bool} {i : Int} (hi : 0 ≤ i) (hp : p i.toNat = false) (hn : ∀ j, j < i.toNat → p j = false) : ∀ j, j < (i + 1).toNat → p j = false := fun j hj => by
  rcases Nat.lt_or_ge j i.toNat with h | h
  · exact hn j h
  · obtain rfl : j = i.toNat := by omega
    exact hp
/-- The marked sets among the first k. -/
def mkd (xs : List Int) (bs : List Bool) : Nat → List Int
  | 0 => []
  | k + 1 => if bs.getD k false then mkd xs bs k ++ [xs.getD k 0] else mkd xs bs k
theorem mkd_len (xs : List Int) (bs : List Bool) : ∀ k, (mkd xs bs k).length ≤ k
  | 0 => Nat.le_refl _
  | k + 1 => by
    have := mkd_len xs bs k
    unfold mkd
    split
    · simp; omega
    · omega
theorem mkd_mem (xs : List Int) (bs : List Bool) : ∀ k, k ≤ xs.length → ∀ x ∈ mkd xs bs k, x ∈ xs
  | 0, _, x, h => by cases h
  | k + 1, hk, x, h => by
    have ih := mkd_mem xs bs k (by omega) x
    unfold mkd at h
    split at h
    · rcases List.mem_append.1 h with h | h
      · exact ih h
      · obtain rfl := List.mem_singleton.1 h
        exact getD_mem' (by omega)
    · exact ih h
theorem mkd_step {xs : List Int} {bs : List Bool} {k : Nat} (h : bs.getD k false = true) : mkd xs bs (k + 1) = mkd xs bs k ++ [xs.getD k 0] := by rw [mkd, if_pos h]
theorem mkd_stay {xs : List Int} {bs : List Bool} {k : Nat} (h : bs.getD k false = false) : mkd xs bs (k + 1) = mkd xs bs k := by rw [mkd, if_neg (by rw [h]; decide)]
/-- Minimal returns this. -/
def minl (xs : List Int) (bs : List Bool) : List Int := extr wi (mkd xs bs xs.length) (mkd xs bs xs.length).length
theorem minl_mem {xs : List Int} {bs : List Bool} : ∀ x ∈ minl xs bs, x ∈ xs := fun x h => mkd_mem xs bs _ (Nat.le_refl _) x (extr_mem _ _ _ (Nat.le_refl _) x h)
theorem minl_len {xs : List Int} {bs : List Bool} : (minl xs bs).length ≤ xs.length := Nat.le_trans (extr_len _ _ _) (mkd_len _ _ _)

/-! ### the reference's way -/
/-- Another marked set lies within set x, among the first k. -/
def undr (xs : List Int) (bs : List Bool) (x : Int) (k : Nat) : Bool := (List.range k).any fun j => bs.getD j false && !decide (xs.getD j 0 = x) && wi (xs.getD j 0) x
theorem undr_succ (xs : List Int) (bs : List Bool) (x : Int) (k : Nat) : undr xs bs x (k + 1) = (undr xs bs x k || (bs.getD k false && !decide (xs.getD k 0 = x) && wi (xs.getD k 0) x)) := by
  unfold undr
  rw [List.range_succ, List.any_append]
  simp
def rmin (xs : List Int) (bs : List Bool) : Nat → List Int
  | 0 => []
  | k + 1 => if (bs.getD k false && !decide (xs.getD k 0 ∈ rmin xs bs k)) && !undr xs bs (xs.getD k 0) xs.length then rmin xs bs k ++ [xs.getD k 0] else rmin xs bs k
theorem rmin_len (xs : List Int) (bs : List Bool) : ∀ k, (rmin xs bs k).length ≤ k
  | 0 => Nat.le_refl _
  | k + 1 => by
    have := rmin_len xs bs k
    unfold rmin
    split
    · simp; omega
    · omega
theorem rmin_mem (xs : List Int) (bs : List Bool) : ∀ k, k ≤ xs.length → ∀ x ∈ rmin xs bs k, x ∈ xs
  | 0, _, x, h => by cases h
  | k + 1, hk, x, h => by
    have ih := rmin_mem xs bs k (by omega) x
    unfold rmin at h
    split at h
    · rcases List.mem_append.1 h with h | h
      · exact ih h
      · obtain rfl := List.mem_singleton.1 h
        exact getD_mem' (by omega)
    · exact ih h
theorem undr_any (xs : List Int) (bs : List Bool) (x : Int) : ∀ k, undr xs bs x k = (mkd xs bs k).any fun t => !decide (t = x) && wi t x
  | 0 => by simp [undr, mkd]
  | k + 1 => by
    rw [undr_succ, undr_any xs bs x k]
    cases h : bs.getD k false with
    | true => rw [mkd_step h, List.any_append]; simp
    | false => rw [mkd_stay h]; simp
theorem mkd_pre (xs : List Int) (bs : List Bool) (k n : Nat) (h : k ≤ n) : ∃ t, mkd xs bs n = mkd xs bs k ++ t := by
  induction n with
  | zero => obtain rfl : k = 0 := by omega
            exact ⟨[], by simp⟩
  | succ n ih =>
    rcases Nat.lt_or_ge n k with h1 | h1
    · obtain rfl : k = n + 1 := by omega
      exact ⟨[], by simp⟩
    · obtain ⟨t, ht⟩ := ih h1
      cases hb : bs.getD n false with
      | true => exact ⟨t ++ [xs.getD n 0], by rw [mkd_step hb, ht, List.append_assoc]⟩
      | false => exact ⟨t, by rw [mkd_stay hb, ht]⟩
theorem rmin_extr (xs : List Int) (bs : List Bool) : ∀ k, k ≤ xs.length → rmin xs bs k = extr wi (mkd xs bs xs.length) (mkd xs bs k).length
  | 0, _ => rfl
  | k + 1, hk => by
    have ih := rmin_extr xs bs k (by omega)
    obtain ⟨t, ht⟩ := mkd_pre xs bs (k + 1) xs.length hk
    cases hb : bs.getD k false with
    | true =>
      rw [mkd_step hb] at ht ⊢
      have hx : (mkd xs bs xs.length).getD (mkd xs bs k).length 0 = xs.getD k 0 := by
        rw [ht, List.getD_eq_getElem?_getD, List.append_assoc, List.getElem?_append_right (Nat.le_refl _), Nat.sub_self]
        rfl
      rw [rmin, List.length_append, List.length_singleton, extr, hb, Bool.true_and, undr_any, hx, ih]
    | false =>
      rw [mkd_stay hb, rmin, hb, Bool.false_and, Bool.false_and, if_neg (by decide), ih]
theorem rmin_all (xs : List Int) (bs : List Bool) : rmin xs bs xs.length = minl xs bs := rmin_extr xs bs _ (Nat.le_refl _)
theorem rmin_step {xs : List Int} {bs : List Bool} {k : Nat} {g : Bool} (hg : g = ((bs.getD k false && !decide (xs.getD k 0 ∈ rmin xs bs k)) && !undr xs bs (xs.getD k 0) xs.length)) (h : g = true) : rmin xs bs (k + 1) = rmin xs bs k ++ [xs.getD k 0] := by rw [rmin, ← hg, if_pos h]
theorem rmin_stay {xs : List Int} {bs : List Bool} {k : Nat} {g : Bool} (hg : g = ((bs.getD k false && !decide (xs.getD k 0 ∈ rmin xs bs k)) && !undr xs bs (xs.getD k 0) xs.length)) (h : g = false) : rmin xs bs (k + 1) = rmin xs bs k := by rw [rmin, ← hg, if_neg (by rw [h]; decide)]
theorem good_step {g u c : Bool} (h : (g && !u) = true) : (!c) = (g && !(u || c)) := by cases g <;> cases u <;> cases c <;> simp_all
theorem any_mono {p : Nat → Bool} {j n : Nat} (h : j ≤ n) (hp : (List.range j).any p = true) : (List.range n).any p = true := by
  obtain ⟨x, hx, hpx⟩ := List.any_eq_true.1 hp
  exact List.any_eq_true.2 ⟨x, List.mem_range.2 (Nat.lt_of_lt_of_le (List.mem_range.1 hx) h), hpx⟩
theorem good_end {p : Nat → Bool} {g gd : Bool} {j : Int} {n : Nat} (hj : 0 ≤ j ∧ j ≤ n) (hc : (n : Int) ≤ j ∨ gd = false) (hg : gd = (g && !(List.range j.toNat).any p)) : gd = (g && !(List.range n).any p) := by
  rcases hc with hc | hc
  · rw [show n = j.toNat by omega]; exact hg
  · subst hc
    cases g with
    | false => rfl
    | true =>
      simp only [Bool.true_and] at hg ⊢
      have : (List.range j.toNat).any p = true := by cases h : (List.range j.toNat).any p <;> simp_all
      rw [any_mono (by omega) this]; rfl
/-- Guilty's results. -/
def gl (xs : List Int) (xb bs : List Bool) : List Int := if fitsB xs.length xb bs then minl xs bs else []
def ge (xs : List Int) (xb bs : List Bool) : Int := if fitsB xs.length xb bs then 0 else 1
end Gu
end Go.Fw
end

section
namespace Go.Fw
namespace Gu
theorem fltr_any (p : Int → Int → Bool) (l : List Int) : ∀ k, decide (0 < (fltr p l k).length) = (List.range k).any fun j => p j (l.getD j 0)
  | 0 => rfl
  | k + 1 => by
    rw [List.range_succ, List.any_append, ← fltr_any p l k]
    cases h : p k (l.getD k 0) && !decide (l.getD k 0 ∈ fltr p l k) with
    | true =>
      rw [fltr_step p l k h]
      simp only [Bool.and_eq_true] at h
      simp only [List.any_cons, List.any_nil, h.1, Bool.or_true, Bool.or_false, decide_eq_true_eq, List.length_append, List.length_singleton]
      omega
    | false =>
      rw [fltr_stay p l k h]
      rcases Bool.and_eq_false_iff.1 h with h | h
      · simp only [List.any_cons, List.any_nil, h, Bool.or_false]
      · have hm : l.getD k 0 ∈ fltr p l k := by simpa using h
        have : 0 < (fltr p l k).length := List.length_pos_of_mem hm
        simp [this]
/-- The empty set is marked. -/
def older (xs : List Int) (bs : List Bool) : Bool := (List.range bs.length).any fun j => bs.getD j false && decide (xs.getD j 0 = 0)
def gOld (xs : List Int) (xb bs : List Bool) : Bool := fitsB xs.length xb bs && older xs bs
theorem any_succ (p : Nat → Bool) (k : Nat) : (List.range (k + 1)).any p = ((List.range k).any p || p k) := by rw [List.range_succ, List.any_append]; simp
/-- Go's numbers made from a list. -/
def arnd (n m : Int) : Int := (if n < 0 then -(n + 1) else n) % m
theorem arnd_range {n m : Int} (hm : 0 < m) : 0 ≤ arnd n m ∧ arnd n m < m := by
  unfold arnd
  exact ⟨Int.emod_nonneg _ (by omega), Int.emod_lt_of_pos _ hm⟩
def atN (l : List Int) (i m : Int) : Int := if i < 0 ∨ (l.length : Int) ≤ i then 0 else arnd (l.getD i.toNat 0) m
theorem atN_range {l : List Int} {i m : Int} (hm : 0 < m) : 0 ≤ atN l i m ∧ atN l i m < m := by
  unfold atN
  split
  · omega
  · exact arnd_range hm
end Gu
end Go.Fw
end

section
namespace Go.Fw
namespace Gu
theorem extr_nodup (b : Int → Int → Bool) (l : List Int) : ∀ k, (extr b l k).Nodup
  | 0 => List.nodup_nil
  | k + 1 => by
    have ih := extr_nodup b l k
    unfold extr
    split
    · rename_i h
      simp only [Bool.and_eq_true, Bool.not_eq_true', decide_eq_false_iff_not] at h
      rw [List.nodup_append]
      refine ⟨ih, by simp, fun x hx y hy => ?_⟩
      obtain rfl := List.mem_singleton.1 hy
      rintro rfl
      exact h.1 hx
    · exact ih
/-- Those of the first k that lie within a set. -/
def insd (l : List Int) (s : Int) (k : Nat) : List Int := (l.take k).filter fun y => wi y s
theorem take_snoc' {l : List Int} {k : Nat} (h : k < l.length) : l.take (k + 1) = l.take k ++ [l.getD k 0] := by
  rw [List.take_add_one, List.getElem?_eq_getElem h, List.getD_eq_getElem?_getD, List.getElem?_eq_getElem h]
  rfl
theorem insd_step {l : List Int} {s : Int} {k : Nat} (hk : k < l.length) (h : wi (l.getD k 0) s = true) : insd l s (k + 1) = insd l s k ++ [l.getD k 0] := by
  unfold insd
  rw [take_snoc' hk, List.filter_append, List.filter_cons, if_pos h, List.filter_nil]
theorem insd_stay {l : List Int} {s : Int} {k : Nat} (hk : k < l.length) (h : wi (l.getD k 0) s = false) : insd l s (k + 1) = insd l s k := by
  unfold insd
  rw [take_snoc' hk, List.filter_append, List.filter_cons, if_neg (by rw [h]; decide), List.filter_nil, List.append_nil]
theorem insd_len (l : List Int) (s : Int) (k : Nat) : (insd l s k).length ≤ k := by
  unfold insd
  have := List.length_filter_le (fun y => wi y s) (l.take k)
  rw [List.length_take] at this
  omega
theorem insd_mem {l : List Int} {s : Int} {k : Nat} : ∀ x ∈ insd l s k, x ∈ l := fun x h => List.mem_of_mem_take (List.mem_filter.1 h).1
theorem insd_any (l : List Int) (s : Int) : decide ((0 : Int) < ((insd l s l.length).length : Int)) = l.any fun y => wi y s := by
  unfold insd
  rw [List.take_length]
  cases h : l.any fun y => wi y s with
  | true =>
    obtain ⟨x, hx, hp⟩ := List.any_eq_true.1 h
    have : 0 < (l.filter fun y => wi y s).length := List.length_pos_of_mem (List.mem_filter.2 ⟨hx, hp⟩)
    exact decide_eq_true (by omega)
  | false =>
    have : (l.filter fun y => wi y s) = [] := List.filter_eq_nil_iff.2 fun x hx => by simpa using List.any_eq_false.1 h x hx
    rw [this]; rfl
/-- What stands in no doubled list is wanted at its place. -/
theorem fltr_filter (p : Int → Bool) (l : List Int) (hn : l.Nodup) : ∀ k, k ≤ l.length → fltr (fun _ y => p y) l k = (l.take k).filter p
  | 0, _ => by simp [fltr]
  | k + 1, hk => by
    have ih := fltr_filter p l hn k (by omega)
    rw [take_snoc' (by omega), List.filter_append, ← ih]
    cases h : p (l.getD k 0) with
    | false =>
      rw [fltr_stay _ _ _ (by rw [h]; rfl), List.filter_cons, if_neg (by rw [h]; decide), List.filter_nil, List.append_nil]
    | true =>
      have hni : l.getD k 0 ∉ fltr (fun _ y => p y) l k := by
        rw [ih]
        intro hm
        have hm := (List.mem_filter.1 hm).1
        obtain ⟨j, hj, he⟩ := List.mem_iff_getElem.1 hm
        rw [List.length_take] at hj
        rw [List.getElem_take] at he
        have hg : l.getD k 0 = l[k] := by simp [show k < l.length by omega]
        rw [hg] at he
        exact List.pairwise_iff_getElem.1 hn j k (by omega) (by omega) (by omega) he
      rw [fltr_step _ _ _ (by rw [h, decide_eq_false hni]; rfl), List.filter_cons, if_pos h, List.filter_nil]
/-- Hidden's results. -/
def hp (xb bs : List Bool) (g : List Int) (i x : Int) : Bool := (xb.getD i.toNat false && !bs.getD i.toNat false) && g.any fun y => wi y x
def hid (xs : List Int) (xb bs : List Bool) : List Int := if fitsB xs.length xb bs then fltr (hp xb bs (gl xs xb bs)) xs xs.length else []
theorem hp_eq (xb bs : List Bool) (g : List Int) (k : Nat) (x : Int) (r : Bool) : (hp xb bs g k x && r) = (((xb.getD k false && !bs.getD k false) && decide ((0 : Int) < ((insd g x g.length).length : Int))) && r) := by unfold hp; rw [insd_any, Int.toNat_natCast]
/-- Hides' results. -/
def hds (xs : List Int) (xb bs : List Bool) (s : Int) : List Int := if s ∈ hid xs xb bs then (gl xs xb bs).filter fun y => wi y s else []
def hde (xs : List Int) (xb bs : List Bool) (s : Int) : Int := if fitsB xs.length xb bs then (if s ∈ hid xs xb bs then 0 else 6) else 1
theorem minl_nodup (xs : List Int) (bs : List Bool) : (minl xs bs).Nodup := extr_nodup _ _ _
theorem gl_nodup (xs : List Int) (xb bs : List Bool) : (gl xs xb bs).Nodup := by
  unfold gl
  split
  · exact minl_nodup _ _
  · exact List.nodup_nil
theorem gl_len (xs : List Int) (xb bs : List Bool) : (gl xs xb bs).length ≤ xs.length := by
  unfold gl
  split
  · exact minl_len
  · simp
theorem hid_len (xs : List Int) (xb bs : List Bool) : (hid xs xb bs).length ≤ xs.length := by
  unfold hid
  split
  · exact fltr_len _ _ _
  · simp
theorem ge_ne {xs : List Int} {xb bs : List Bool} (h : ¬ ge xs xb bs = 0) : fitsB xs.length xb bs = false := by
  unfold ge at h
  cases hf : fitsB xs.length xb bs with
  | false => rfl
  | true => rw [hf] at h; simp at h
theorem ge_eq {xs : List Int} {xb bs : List Bool} (h : ge xs xb bs = 0) : fitsB xs.length xb bs = true := by
  unfold ge at h
  cases hf : fitsB xs.length xb bs with
  | true => rfl
  | false => rw [hf] at h; simp at h
theorem gl_fit {xs : List Int} {xb bs : List Bool} (h : fitsB xs.length xb bs = true) : gl xs xb bs = minl xs bs := by unfold gl; rw [if_pos h]
end Gu
end Go.Fw
namespace Go.Fw
namespace Gu
variable {xs : List Int} {xb bs : List Bool} {s : Int}
theorem hds_no (h : fitsB xs.length xb bs = false) : [] = hds xs xb bs s := by unfold hds hid; rw [h]; simp
theorem hde_no (h : fitsB xs.length xb bs = false) : ge xs xb bs = hde xs xb bs s := by unfold ge hde; rw [h]; simp
theorem hds_none (h : s ∉ hid xs xb bs) : [] = hds xs xb bs s := by unfold hds; rw [if_neg h]
theorem hde_none (h : fitsB xs.length xb bs = true) (h2 : s ∉ hid xs xb bs) : 6 = hde xs xb bs s := by unfold hde; rw [if_pos h, if_neg h2]
theorem hds_yes (h : s ∈ hid xs xb bs) : fltr (fun _ y => wi y s) (gl xs xb bs) (gl xs xb bs).length = hds xs xb bs s := by
  unfold hds
  rw [if_pos h, fltr_filter (fun y => wi y s) _ (gl_nodup _ _ _) _ (Nat.le_refl _), List.take_length]
theorem hds_yes2 (h : s ∈ hid xs xb bs) : insd (gl xs xb bs) s (gl xs xb bs).length = hds xs xb bs s := by
  unfold hds insd
  rw [if_pos h, List.take_length]
theorem hde_yes (h : fitsB xs.length xb bs = true) (h2 : s ∈ hid xs xb bs) : ge xs xb bs = hde xs xb bs s := by unfold hde ge; rw [if_pos h, if_pos h, if_pos h2]
theorem hde_yes2 (h : fitsB xs.length xb bs = true) (h2 : s ∈ hid xs xb bs) : 0 = hde xs xb bs s := by unfold hde; rw [if_pos h, if_pos h2]
/-- Inner: the bits of all sets within one, among the first k. -/
def inr (xs : List Int) (s : Int) : Nat → Int
  | 0 => 0
  | k + 1 => if wi (xs.getD k 0) s then ior (inr xs s k) (xs.getD k 0) else inr xs s k
end Gu
end Go.Fw
end

section
namespace Go.Fw
namespace Gu
/-- What Below strikes out. -/
def del (s y : Int) : Bool := decide (y = s) || !wi y s
def kept (s : Int) (xs : List Int) : List Int := xs.filter fun y => !del s y
/-- Where DeleteFunc stands: i kept among the first j. -/
structure Dst (s : Int) (xs ys : List Int) (i j : Int) : Prop where
  i0 : 0 ≤ i ∧ i < j ∧ j ≤ xs.length
  len : ys.length = xs.length
  head : ys.take i.toNat = kept s (xs.take j.toNat)
  tail : ys.drop j.toNat = xs.drop j.toNat
theorem ixF_spec {p : Int → Bool} {xs : List Int} (h : ¬ ixF p xs = -1) : 0 ≤ ixF p xs ∧ ixF p xs < xs.length ∧ p (xs.getD (ixF p xs).toNat 0) = true ∧ ∀ j, j < (ixF p xs).toNat → p (xs.getD j 0) = false := by
  unfold ixF at h ⊢
  cases hf : xs.findIdx? p with
  | none => rw [hf] at h; simp at h
  | some k =>
    obtain ⟨h1, h2, h3⟩ := List.findIdx?_eq_some_iff_getElem.1 hf
    refine ⟨by simp, by simpa using h1, by simpa [h1] using h2, fun j hj => ?_⟩
    simp only [Int.toNat_natCast] at hj
    have := h3 j hj
    have hj' : j < xs.length := by omega
    simpa [hj'] using this
theorem ixF_none {p : Int → Bool} {xs : List Int} (h : ixF p xs = -1) : ∀ x ∈ xs, p x = false := by
  unfold ixF at h
  cases hf : xs.findIdx? p with
  | none => exact fun x hx => List.findIdx?_eq_none_iff.1 hf x hx
  | some k => rw [hf] at h; simp at h
theorem kept_len (s : Int) (xs : List Int) : (kept s xs).length ≤ xs.length := List.length_filter_le _ _
/-- The greatest sets in one. -/
def blw (xs : List Int) (s : Int) : List Int := extr (fun a b => wi b a) (kept s xs) (kept s xs).length
theorem blw_len (xs : List Int) (s : Int) : (blw xs s).length ≤ xs.length := Nat.le_trans (extr_len _ _ _) (kept_len _ _)
theorem kept_all {s : Int} {xs : List Int} (h : ∀ x ∈ xs, del s x = false) : kept s xs = xs := List.filter_eq_self.2 fun x hx => by rw [h x hx]; rfl
theorem Dst.start {s : Int} {xs : List Int} {i : Int} (hi : 0 ≤ i ∧ i < xs.length) (hp : del s (xs.getD i.toNat 0) = true) (hn : ∀ j, j < i.toNat → del s (xs.getD j 0) = false) : Dst s xs xs i (i + 1) := by
  refine ⟨by omega, rfl, ?_, rfl⟩
  rw [show (i + 1).toNat = i.toNat + 1 by omega, take_snoc' (by omega), kept, List.filter_append, List.filter_cons, if_neg (by rw [hp]; decide), List.filter_nil, List.append_nil]
  refine (kept_all (s := s) fun x hx => ?_).symm
  obtain ⟨j, hj, rfl⟩ := List.mem_iff_getElem.1 hx
  rw [List.length_take] at hj
  have := hn j (by omega)
  rw [List.getElem_take]
  rwa [List.getD_eq_getElem?_getD, List.getElem?_eq_getElem (by omega)] at this
theorem Dst.get {s : Int} {xs ys : List Int} {i j : Int} (h : Dst s xs ys i j) (hj : j < xs.length) : ys.getD j.toNat 0 = xs.getD j.toNat 0 := by
  have := congrArg (·[0]?) h.tail
  simp only [List.getElem?_drop, Nat.add_zero] at this
  rw [List.getD_eq_getElem?_getD, List.getD_eq_getElem?_getD, this]
theorem Dst.skip {s : Int} {xs ys : List Int} {i j : Int} (h : Dst s xs ys i j) (hj : j < xs.length) (hp : del s (ys.getD j.toNat 0) = true) : Dst s xs ys i (j + 1) := by
  have hg := h.get hj
  rw [hg] at hp
  have := h.i0
  refine ⟨by omega, h.len, ?_, ?_⟩
  · rw [h.head, show (j + 1).toNat = j.toNat + 1 by omega, take_snoc' (by omega)]
    unfold kept
    rw [List.filter_append, List.filter_cons, if_neg (by rw [hp]; decide), List.filter_nil, List.append_nil]
  · have := congrArg (List.drop 1) h.tail
    rwa [List.drop_drop, List.drop_drop, show j.toNat + 1 = (j + 1).toNat by omega] at this
theorem Dst.keep {s : Int} {xs ys : List Int} {i j : Int} (h : Dst s xs ys i j) (hj : j < xs.length) (hp : del s (ys.getD j.toNat 0) = false) : Dst s xs (ys.set i.toNat (ys.getD j.toNat 0)) (i + 1) (j + 1) := by
  have hg := h.get hj
  have h0 := h.i0
  have hl := h.len
  refine ⟨by omega, by rw [List.length_set]; exact hl, ?_, ?_⟩
  · rw [hg] at hp ⊢
    rw [show (i + 1).toNat = i.toNat + 1 by omega, show (j + 1).toNat = j.toNat + 1 by omega, take_snoc' (show j.toNat < xs.length by omega), List.take_set, List.take_add_one, List.getElem?_eq_getElem (by omega)]
    have hlt : (ys.take i.toNat).length = i.toNat := by rw [List.length_take]; omega
    rw [List.set_append_right _ _ (by omega), hlt, Nat.sub_self]
    simp only [Option.toList_some, List.set_cons_zero]
    rw [h.head]
    unfold kept
    rw [List.filter_append, List.filter_cons, if_pos (by rw [hp]; rfl), List.filter_nil]
  · have := congrArg (List.drop 1) h.tail
    rw [List.drop_drop, List.drop_drop, show j.toNat + 1 = (j + 1).toNat by omega] at this
    rw [List.drop_set_of_lt (by omega)]
    exact this
theorem Dst.done {s : Int} {xs ys : List Int} {i j : Int} (h : Dst s xs ys i j) (hj : ¬ j < xs.length) : ys.take i.toNat = kept s xs := by
  have := h.i0
  rw [h.head, List.take_of_length_le (by omega)]
end Gu
end Go.Fw
end

section
namespace Go.Fw
namespace Gu
/-- Another set lies between, among the first k. -/
def btw (xs : List Int) (s x : Int) (k : Nat) : Bool := (List.range k).any fun j => ((!decide (xs.getD j 0 = s) && wi (xs.getD j 0) s) && !decide (xs.getD j 0 = x)) && wi x (xs.getD j 0)
theorem btw_succ (xs : List Int) (s x : Int) (k : Nat) : btw xs s x (k + 1) = (btw xs s x k || (((!decide (xs.getD k 0 = s) && wi (xs.getD k 0) s) && !decide (xs.getD k 0 = x)) && wi x (xs.getD k 0))) := by
  unfold btw
  rw [any_succ]
def rblw (xs : List Int) (s : Int) : Nat → List Int
  | 0 => []
  | k + 1 => if ((!decide (xs.getD k 0 = s) && wi (xs.getD k 0) s) && !decide (xs.getD k 0 ∈ rblw xs s k)) && !btw xs s (xs.getD k 0) xs.length then rblw xs s k ++ [xs.getD k 0] else rblw xs s k
theorem rblw_len (xs : List Int) (s : Int) : ∀ k, (rblw xs s k).length ≤ k
  | 0 => Nat.le_refl _
  | k + 1 => by
    have := rblw_len xs s k
    unfold rblw
    split
    · simp; omega
    · omega
theorem rblw_mem (xs : List Int) (s : Int) : ∀ k, k ≤ xs.length → ∀ x ∈ rblw xs s k, x ∈ xs
  | 0, _, x, h => by cases h
  | k + 1, hk, x, h => by
    have ih := rblw_mem xs s k (by omega) x
    unfold rblw at h
    split at h
    · rcases List.mem_append.1 h with h | h
      · exact ih h
      · obtain rfl := List.mem_singleton.1 h
        exact getD_mem' (by omega)
    · exact ih h
theorem del_eq (s y : Int) : (!del s y) = (!decide (y = s) && wi y s) := by unfold del; cases decide (y = s) <;> cases wi y s <;> rfl
theorem btw_any (xs : List Int) (s x : Int) : ∀ k, k ≤ xs.length → btw xs s x k = (kept s (xs.take k)).any fun t => !decide (t = x) && wi x t
  | 0, _ => by simp [btw, kept]
  | k + 1, hk => by
    rw [btw_succ, btw_any xs s x k (by omega), take_snoc' (by omega)]
    unfold kept
    rw [List.filter_append, List.any_append, List.filter_cons, del_eq]
    cases h : (!decide (xs.getD k 0 = s) && wi (xs.getD k 0) s) with
    | true => rw [if_pos rfl]; simp only [List.filter_nil, List.any_cons, List.any_nil, Bool.or_false, Bool.true_and]
    | false => rw [if_neg (by decide)]; simp only [List.filter_nil, List.any_nil, Bool.false_and]
theorem rblw_extr (xs : List Int) (s : Int) : ∀ k, k ≤ xs.length → rblw xs s k = extr (fun a b => wi b a) (kept s xs) (kept s (xs.take k)).length
  | 0, _ => by simp [rblw, kept, extr]
  | k + 1, hk => by
    have ih := rblw_extr xs s k (by omega)
    have hsp : kept s xs = kept s (xs.take (k + 1)) ++ kept s (xs.drop (k + 1)) := by
      unfold kept
      rw [← List.filter_append, List.take_append_drop]
    have hst : kept s (xs.take (k + 1)) = if (!decide (xs.getD k 0 = s) && wi (xs.getD k 0) s) = true then kept s (xs.take k) ++ [xs.getD k 0] else kept s (xs.take k) := by
      rw [take_snoc' (by omega)]
      unfold kept
      rw [List.filter_append, List.filter_cons, del_eq]
      split <;> simp
    rw [rblw]
    cases hb : (!decide (xs.getD k 0 = s) && wi (xs.getD k 0) s) with
    | true =>
      rw [hb, if_pos rfl] at hst
      have hx : (kept s xs).getD (kept s (xs.take k)).length 0 = xs.getD k 0 := by
        rw [hsp, hst, List.getD_eq_getElem?_getD, List.append_assoc, List.getElem?_append_right (Nat.le_refl _), Nat.sub_self]
        rfl
      have ha := btw_any xs s (xs.getD k 0) xs.length (Nat.le_refl _)
      rw [List.take_length] at ha
      rw [hst, List.length_append, List.length_singleton, extr, Bool.true_and, ha, hx, ih]
    | false =>
      rw [hb, if_neg (by decide)] at hst
      rw [hst, Bool.false_and, Bool.false_and, if_neg (by decide), ih]
theorem rblw_all (xs : List Int) (s : Int) : rblw xs s xs.length = blw xs s := by
  rw [rblw_extr xs s _ (Nat.le_refl _), List.take_length]
  rfl
theorem rblw_step {xs : List Int} {s : Int} {k : Nat} {g : Bool} (hg : g = (((!decide (xs.getD k 0 = s) && wi (xs.getD k 0) s) && !decide (xs.getD k 0 ∈ rblw xs s k)) && !btw xs s (xs.getD k 0) xs.length)) (h : g = true) : rblw xs s (k + 1) = rblw xs s k ++ [xs.getD k 0] := by rw [rblw, ← hg, if_pos h]
theorem rblw_stay {xs : List Int} {s : Int} {k : Nat} {g : Bool} (hg : g = (((!decide (xs.getD k 0 = s) && wi (xs.getD k 0) s) && !decide (xs.getD k 0 ∈ rblw xs s k)) && !btw xs s (xs.getD k 0) xs.length)) (h : g = false) : rblw xs s (k + 1) = rblw xs s k := by rw [rblw, ← hg, if_neg (by rw [h]; decide)]
end Gu
end Go.Fw
namespace Go.Fw
namespace Gu
/-- The marks that Each makes. -/
def eac (xb : List Bool) (m : List Int) : Nat → List Bool
  | 0 => []
  | k + 1 => eac xb m k ++ [xb.getD k false && decide (atN m k 3 = 1)]
theorem eac_len (xb : List Bool) (m : List Int) : ∀ k, (eac xb m k).length = k
  | 0 => rfl
  | k + 1 => by rw [eac, List.length_append, eac_len xb m k]; rfl
theorem eac_step (xb : List Bool) (m : List Int) (k : Nat) : eac xb m (k + 1) = eac xb m k ++ [xb.getD k false && decide (atN m k 3 = 1)] := rfl
end Gu
end Go.Fw
end

section
namespace Go.Fw
namespace Gu
/-- Does this set build? -/
def bld (xs : List Int) (xb : List Bool) (y : Int) : Bool := xb.getD (ixF (fun t => decide (y = t)) xs).toNat false
def okT (xs : List Int) (xb : List Bool) (g : Int) : Bool := decide (1 < (blw xs g).length) && (blw xs g).all (bld xs xb)
/-- Together's lists, for the first k. -/
def tog (xs : List Int) (xb : List Bool) (gl : List Int) : Nat → List (List Int)
  | 0 => []
  | k + 1 => if okT xs xb (gl.getD k 0) then tog xs xb gl k ++ [gl.getD k 0 :: blw xs (gl.getD k 0)] else tog xs xb gl k
theorem tog_len (xs : List Int) (xb : List Bool) (gl : List Int) : ∀ k, (tog xs xb gl k).length ≤ k
  | 0 => Nat.le_refl _
  | k + 1 => by
    have := tog_len xs xb gl k
    unfold tog
    split
    · simp; omega
    · omega
theorem tog_step {xs : List Int} {xb : List Bool} {gl : List Int} {k : Nat} (h : okT xs xb (gl.getD k 0) = true) : tog xs xb gl (k + 1) = tog xs xb gl k ++ [gl.getD k 0 :: blw xs (gl.getD k 0)] := by rw [tog, if_pos h]
theorem tog_stay {xs : List Int} {xb : List Bool} {gl : List Int} {k : Nat} (h : okT xs xb (gl.getD k 0) = false) : tog xs xb gl (k + 1) = tog xs xb gl k := by rw [tog, if_neg (by rw [h]; decide)]
theorem kept_mem {s : Int} {xs : List Int} : ∀ x ∈ kept s xs, x ∈ xs := fun x h => (List.mem_filter.1 h).1
theorem blw_mem {s : Int} {xs : List Int} : ∀ x ∈ blw xs s, x ∈ xs := fun x h => kept_mem x (extr_mem _ _ _ (Nat.le_refl _) x h)
theorem ixF_in {xs : List Int} {y : Int} (h : y ∈ xs) : 0 ≤ ixF (fun t => decide (y = t)) xs ∧ ixF (fun t => decide (y = t)) xs < xs.length := by
  have h1 := ixF_mem y xs
  rw [decide_eq_true h] at h1
  have h2 := of_decide_eq_true h1
  exact ⟨h2, (ixF_range _ _).2⟩
/-- The program's test. -/
theorem okT_prog (xs : List Int) (xb : List Bool) (g : Int) : (decide ((1 : Int) < ((blw xs g).length : Int)) && decide (((fltr (fun _ y => bld xs xb y) (blw xs g) (blw xs g).length).length : Int) = ((blw xs g).length : Int))) = okT xs xb g := by
  unfold okT
  rw [fltr_filter (bld xs xb) (blw xs g) (extr_nodup _ _ _) _ (Nat.le_refl _), List.take_length]
  congr 1
  · rw [decide_eq_decide]; omega
  · rw [Bool.eq_iff_iff, decide_eq_true_eq, List.all_eq_true]
    constructor
    · intro h
      exact List.length_filter_eq_length_iff.1 (by omega)
    · intro h
      rw [List.filter_eq_self.2 h]
end Gu
end Go.Fw
namespace Go.Fw
namespace Gu
/-- Bit i of a set. -/
def bitB (s i : Int) : Bool := decide (iand (s / 2 ^ i.toNat) 1 = 1)
def size (s : Int) : Nat → Int
  | 0 => 0
  | k + 1 => if bitB s k then size s k + 1 else size s k
theorem size_le (s : Int) : ∀ k, 0 ≤ size s k ∧ size s k ≤ k
  | 0 => by simp [size]
  | k + 1 => by
    have := size_le s k
    unfold size
    split <;> omega
end Gu
end Go.Fw
end

section
namespace Go.Fw.Gu
/-- The marks of some sets. -/
def mkB (xs sets : List Int) : Nat → List Bool
  | 0 => List.replicate xs.length false
  | k + 1 => if 0 ≤ ixF (fun y => decide (sets.getD k 0 = y)) xs then (mkB xs sets k).set (ixF (fun y => decide (sets.getD k 0 = y)) xs).toNat true else mkB xs sets k
theorem mkB_len (xs sets : List Int) : ∀ k, (mkB xs sets k).length = xs.length
  | 0 => by simp [mkB]
  | k + 1 => by
    rw [mkB]
    split
    · rw [List.length_set, mkB_len]
    · exact mkB_len xs sets k
theorem mkB_step {xs sets : List Int} {k : Nat} (h : 0 ≤ ixF (fun y => decide (sets.getD k 0 = y)) xs) : mkB xs sets (k + 1) = (mkB xs sets k).set (ixF (fun y => decide (sets.getD k 0 = y)) xs).toNat true := by rw [mkB, if_pos h]
theorem mkB_stay {xs sets : List Int} {k : Nat} (h : ¬ 0 ≤ ixF (fun y => decide (sets.getD k 0 = y)) xs) : mkB xs sets (k + 1) = mkB xs sets k := by rw [mkB, if_neg h]
def exX : List Int := [0, 1, 4, 3, 5, 7]
def exB (b : Bool) : List Bool := [true, true, b, true, true, true]
end Go.Fw.Gu
namespace Go.Fw.Gu
theorem hid_mem {xs : List Int} {xb bs : List Bool} : ∀ x ∈ hid xs xb bs, x ∈ xs := fun x h => by
  unfold hid at h
  split at h
  · exact fltr_mem _ _ _ (Nat.le_refl _) x h
  · cases h
end Go.Fw.Gu
end

section
/-! the order of sets, and what is minimal -/
namespace Go.Fw.Gu
def R64 (x : Int) : Prop := -9223372036854775808 ≤ x ∧ x ≤ 9223372036854775807
theorem wrap_toInt (b : BitVec 64) : IntKind.i64.wrap (b.toNat : Int) = b.toInt := by
  have hb := b.isLt
  simp only [IntKind.wrap, IntKind.bits, IntKind.signed, BitVec.toInt_eq_toNat_cond]
  simp
  split <;> split <;> omega
theorem ofInt_toInt {x : Int} (h : R64 x) : (BitVec.ofInt 64 x).toInt = x := by
  obtain ⟨h1, h2⟩ := h
  rw [BitVec.toInt_ofInt, Int.bmod_eq_of_le] <;> omega
theorem wi_iff {a b : Int} (h : R64 a) : wi a b = true ↔ BitVec.ofInt 64 a &&& BitVec.ofInt 64 b = BitVec.ofInt 64 a := by
  unfold wi iand
  rw [decide_eq_true_iff, wrap_toInt]
  constructor
  · intro e
    apply BitVec.eq_of_toInt_eq
    rw [e, ofInt_toInt h]
  · intro e
    rw [e, ofInt_toInt h]
theorem wi_refl {a : Int} (h : R64 a) : wi a a = true := (wi_iff h).2 (by simp)
theorem wi_anti {a b : Int} (ha : R64 a) (hb : R64 b) (h1 : wi a b = true) (h2 : wi b a = true) : a = b := by
  have e1 := (wi_iff ha).1 h1
  have e2 := (wi_iff hb).1 h2
  rw [BitVec.and_comm] at e2
  rw [← ofInt_toInt ha, ← ofInt_toInt hb, ← e1, e2]
theorem wi_trans {a b c : Int} (ha : R64 a) (hb : R64 b) (h1 : wi a b = true) (h2 : wi b c = true) : wi a c = true := by
  have e1 := (wi_iff ha).1 h1
  have e2 := (wi_iff hb).1 h2
  refine (wi_iff ha).2 ?_
  rw [← e1, BitVec.and_assoc, e2]
theorem wi_zero {a : Int} : wi 0 a = true := (wi_iff ⟨by decide, by decide⟩).2 (by simp)
theorem wi_zero' {a : Int} (ha : R64 a) (h : wi a 0 = true) : a = 0 := wi_anti ha ⟨by decide, by decide⟩ h wi_zero
theorem getD_lt {l : List Int} {x : Int} (h : x ∈ l) : ∃ j, j < l.length ∧ l.getD j 0 = x := by
  obtain ⟨j, hj, rfl⟩ := List.mem_iff_getElem.1 h
  exact ⟨j, hj, by simp [hj]⟩
theorem extr_iff (b : Int → Int → Bool) (l : List Int) : ∀ k, ∀ x, x ∈ extr b l k ↔ (∃ j, j < k ∧ l.getD j 0 = x) ∧ (l.any fun t => !decide (t = x) && b t x) = false
  | 0, x => by simp [extr]
  | k + 1, x => by
    have ih := extr_iff b l k
    rw [extr]
    split
    · rename_i h
      rw [Bool.and_eq_true, Bool.not_eq_true', Bool.not_eq_true'] at h
      rw [List.mem_append, List.mem_singleton, ih]
      constructor
      · rintro (⟨⟨j, hj, e⟩, h2⟩ | rfl)
        · exact ⟨⟨j, by omega, e⟩, h2⟩
        · exact ⟨⟨k, by omega, rfl⟩, h.2⟩
      · rintro ⟨⟨j, hj, e⟩, h2⟩
        by_cases hjk : j = k
        · subst hjk; exact .inr e.symm
        · exact .inl ⟨⟨j, by omega, e⟩, h2⟩
    · rename_i h
      rw [ih]
      constructor
      · rintro ⟨⟨j, hj, e⟩, h2⟩
        exact ⟨⟨j, by omega, e⟩, h2⟩
      · rintro ⟨⟨j, hj, e⟩, h2⟩
        by_cases hjk : j = k
        · subst hjk
          subst e
          rw [h2, Bool.not_false, Bool.and_true, Bool.not_eq_true', Bool.not_eq_false, decide_eq_true_eq] at h
          exact (ih _).1 h
        · exact ⟨⟨j, by omega, e⟩, h2⟩
theorem any_low {l : List Int} {x : Int} : (l.any fun t => !decide (t = x) && wi t x) = false ↔ ∀ t ∈ l, t ≠ x → wi t x = false := by
  rw [List.any_eq_false]
  constructor
  · intro h t ht hne
    have := h t ht
    simpa [hne] using this
  · intro h t ht
    by_cases hne : t = x
    · simp [hne]
    · simp [hne, h t ht hne]
theorem minl_iff {xs : List Int} {bs : List Bool} {x : Int} : x ∈ minl xs bs ↔ x ∈ mkd xs bs xs.length ∧ ∀ t ∈ mkd xs bs xs.length, t ≠ x → wi t x = false := by
  unfold minl
  rw [extr_iff, any_low]
  constructor
  · rintro ⟨⟨j, hj, rfl⟩, h⟩
    exact ⟨getD_mem' hj, h⟩
  · rintro ⟨h1, h2⟩
    exact ⟨getD_lt h1, h2⟩
theorem mkd_iff {xs : List Int} {bs : List Bool} {x : Int} : ∀ {k : Nat}, x ∈ mkd xs bs k ↔ ∃ j, j < k ∧ bs.getD j false = true ∧ xs.getD j 0 = x
  | 0 => by simp [mkd]
  | k + 1 => by
    have ih := @mkd_iff xs bs x k
    rw [mkd]
    split
    · rename_i h
      rw [List.mem_append, List.mem_singleton, ih]
      constructor
      · rintro (⟨j, hj, h1, h2⟩ | rfl)
        · exact ⟨j, by omega, h1, h2⟩
        · exact ⟨k, by omega, h, rfl⟩
      · rintro ⟨j, hj, h1, h2⟩
        by_cases hjk : j = k
        · subst hjk; exact .inr h2.symm
        · exact .inl ⟨j, by omega, h1, h2⟩
    · rename_i h
      rw [ih]
      constructor
      · rintro ⟨j, hj, h1, h2⟩
        exact ⟨j, by omega, h1, h2⟩
      · rintro ⟨j, hj, h1, h2⟩
        by_cases hjk : j = k
        · subst hjk; exact absurd h1 h
        · exact ⟨j, by omega, h1, h2⟩
theorem countP_lt {l : List Int} {p q : Int → Bool} (h : ∀ x ∈ l, p x = true → q x = true) {y : Int} (hy : y ∈ l) (hp : p y = false) (hq : q y = true) : l.countP p < l.countP q := by
  induction l with
  | nil => cases hy
  | cons a l ih =>
    have hle : l.countP p ≤ l.countP q := List.countP_mono_left fun x hx => h x (by simp [hx])
    rw [List.countP_cons, List.countP_cons]
    rcases List.mem_cons.1 hy with rfl | hy
    · simp [hp, hq]; omega
    · have := ih (fun x hx => h x (by simp [hx])) hy
      have h2 := h a (by simp)
      cases hpa : p a <;> cases hqa : q a <;> simp_all <;> omega
/-- Each marked set holds a minimal one. -/
theorem min_below {xs : List Int} {bs : List Bool} (hr : ∀ x ∈ xs, R64 x) : ∀ (n : Nat) {x : Int}, x ∈ mkd xs bs xs.length → (mkd xs bs xs.length).countP (fun t => wi t x) ≤ n → ∃ y ∈ minl xs bs, wi y x = true
  | 0, x, hx, hn => by
    have hrx := hr x (mkd_mem _ _ _ (Nat.le_refl _) x hx)
    have : 0 < (mkd xs bs xs.length).countP (fun t => wi t x) := List.countP_pos_iff.2 ⟨x, hx, wi_refl hrx⟩
    omega
  | n + 1, x, hx, hn => by
    have hrr := fun t ht => hr t (mkd_mem xs bs _ (Nat.le_refl _) t ht)
    by_cases h : ∀ t ∈ mkd xs bs xs.length, t ≠ x → wi t x = false
    · exact ⟨x, minl_iff.2 ⟨hx, h⟩, wi_refl (hrr x hx)⟩
    · obtain ⟨t, h⟩ := Classical.not_forall.1 h
      simp only [Classical.not_imp, Bool.not_eq_false] at h
      obtain ⟨ht, hne, hw⟩ := h
      have hlt := countP_lt (l := mkd xs bs xs.length) (p := fun s => wi s t) (q := fun s => wi s x) (fun s hs h => wi_trans (hrr s hs) (hrr t ht) h hw) hx (by
        cases h : wi x t with
        | false => rfl
        | true => exact absurd (wi_anti (hrr t ht) (hrr x hx) hw h) hne) (wi_refl (hrr x hx))
      obtain ⟨y, hy, h2⟩ := min_below hr n ht (by omega)
      exact ⟨y, hy, wi_trans (hrr y ((minl_iff.1 hy).1)) (hrr t ht) h2 hw⟩
theorem min_in {xs : List Int} {bs : List Bool} (hr : ∀ x ∈ xs, R64 x) {x : Int} (hx : x ∈ mkd xs bs xs.length) : ∃ y ∈ minl xs bs, wi y x = true := min_below hr _ hx (Nat.le_refl _)
/-- The place of an element. -/
theorem nodup_getD {xs : List Int} (hn : xs.Nodup) {i j : Nat} (hi : i < xs.length) (hj : j < xs.length) (h : xs.getD i 0 = xs.getD j 0) : i = j := by
  rw [List.getD_eq_getElem?_getD, List.getD_eq_getElem?_getD, List.getElem?_eq_getElem hi, List.getElem?_eq_getElem hj] at h
  exact (List.getElem_inj hn).1 h
theorem mkd_at {xs : List Int} {bs : List Bool} (hn : xs.Nodup) {i : Nat} (hi : i < xs.length) : xs.getD i 0 ∈ mkd xs bs xs.length ↔ bs.getD i false = true := by
  rw [mkd_iff]
  constructor
  · rintro ⟨j, hj, h1, h2⟩
    rw [← nodup_getD hn hj hi h2]
    exact h1
  · exact fun h => ⟨i, hi, h, rfl⟩
theorem ixF_nodup {xs : List Int} (hn : xs.Nodup) {i : Nat} (hi : i < xs.length) {x : Int} (h : xs.getD i 0 = x) : ixF (fun t => decide (x = t)) xs = i :=
  ixF_at hi (decide_eq_true h.symm) fun j hj => decide_eq_false fun e => by have := nodup_getD hn (by omega) hi (e.symm.trans h.symm); omega
theorem eac_get (xb : List Bool) (m : List Int) : ∀ k j, j < k → (eac xb m k).getD j false = (xb.getD j false && decide (atN m j 3 = 1))
  | 0, j, h => by omega
  | k + 1, j, h => by
    have hl := eac_len xb m k
    rw [eac, List.getD_eq_getElem?_getD]
    by_cases hj : j < k
    · rw [List.getElem?_append_left (by omega), ← List.getD_eq_getElem?_getD, eac_get xb m k j hj]
    · obtain rfl : j = k := by omega
      rw [List.getElem?_append_right (by omega), hl, Nat.sub_self]
      rfl
theorem eac_fit (xs : List Int) (xb : List Bool) (m : List Int) (h : xb.length = xs.length) : fitsB xs.length xb (eac xb m xs.length) = true := fits_ok (by rw [eac_len]) (by rw [h]) fun j hj => by
  rw [eac_len] at hj
  rw [eac_get xb m _ j hj]
  cases xb.getD j false <;> simp
end Go.Fw.Gu
namespace Go.Fw.Gu
/-! ### sorted -/
def Fam (xs : List Int) : Prop := xs.Nodup ∧ (∀ x ∈ xs, 0 ≤ x ∧ x < 32) ∧ xs.Pairwise fun a b => size a 64 ≤ size b 64
theorem ins_lo {ys : List Int} {x k : Int} (hk : 0 < k) (h : size x 64 < size (ys.getD (k - 1).toNat 0) 64 ∨ size (ys.getD (k - 1).toNat 0) 64 = size x 64 ∧ x < ys.getD (k - 1).toNat 0) (hlo : ∀ j, k.toNat ≤ j → j < ys.length → size x 64 ≤ size (ys.getD j 0) 64) : ∀ j, (k - 1).toNat ≤ j → j < ys.length → size x 64 ≤ size (ys.getD j 0) 64 := fun j h1 h2 => by
  by_cases hj : k.toNat ≤ j
  · exact hlo j hj h2
  · obtain rfl : j = (k - 1).toNat := by omega
    rcases h with h | h <;> omega
theorem ins_hi {ys : List Int} {x k : Int} (h0 : 0 ≤ k) (h : ¬ 0 < k ∨ ¬ size x 64 < size (ys.getD (k - 1).toNat 0) 64 ∧ (¬ size (ys.getD (k - 1).toNat 0) 64 = size x 64 ∨ ¬ x < ys.getD (k - 1).toNat 0)) : k.toNat = 0 ∨ size (ys.getD (k.toNat - 1) 0) 64 ≤ size x 64 := by
  by_cases hk : k ≤ 0
  · left; omega
  · right
    rcases h with h | h
    · omega
    · rw [show k.toNat - 1 = (k - 1).toNat by omega]
      omega
theorem ins_sorted {s : Int → Int} {ys : List Int} {x : Int} {k : Nat} (h : ys.Pairwise fun a b => s a ≤ s b) (hk : k ≤ ys.length) (h1 : k = 0 ∨ s (ys.getD (k - 1) 0) ≤ s x) (h2 : ∀ j, k ≤ j → j < ys.length → s x ≤ s (ys.getD j 0)) : (ys.take k ++ [x] ++ ys.drop k).Pairwise fun a b => s a ≤ s b := by
  have hp := List.pairwise_iff_getElem.1 h
  have ha : ∀ a ∈ ys.take k, s a ≤ s x := fun a ha => by
    obtain ⟨i, hi, rfl⟩ := List.mem_iff_getElem.1 ha
    rw [List.length_take] at hi
    rw [List.getElem_take]
    rcases h1 with h1 | h1
    · omega
    · have e : ys.getD (k - 1) 0 = ys[k - 1] := by rw [List.getD_eq_getElem?_getD, List.getElem?_eq_getElem (by omega)]; rfl
      rw [e] at h1
      by_cases hik : i = k - 1
      · subst hik; exact h1
      · have := hp i (k - 1) (by omega) (by omega) (by omega)
        omega
  have hb : ∀ b ∈ ys.drop k, s x ≤ s b := fun b hb => by
    obtain ⟨i, hi, rfl⟩ := List.mem_iff_getElem.1 hb
    rw [List.length_drop] at hi
    rw [List.getElem_drop]
    have := h2 (k + i) (by omega) (by omega)
    rwa [List.getD_eq_getElem?_getD, List.getElem?_eq_getElem (by omega)] at this
  have hab : ∀ a ∈ ys.take k, ∀ b ∈ ys.drop k, s a ≤ s b := fun a h3 b h4 => Int.le_trans (ha a h3) (hb b h4)
  rw [List.pairwise_append, List.pairwise_append]
  refine ⟨⟨h.sublist (List.take_sublist k ys), List.pairwise_singleton _ _, fun a h3 b h4 => by rw [List.mem_singleton.1 h4]; exact ha a h3⟩, h.sublist (List.drop_sublist k ys), fun a h3 b h4 => ?_⟩
  rcases List.mem_append.1 h3 with h3 | h3
  · exact hab a h3 b h4
  · rw [List.mem_singleton.1 h3]; exact hb b h4
theorem ins_perm {ys l : List Int} {i k : Nat} (h : ys.Perm (l.take i)) (hi : i < l.length) : (ys.take k ++ [l.getD i 0] ++ ys.drop k).Perm (l.take (i + 1)) := by
  rw [take_snoc' hi]
  refine List.Perm.trans ?_ (h.append_right _)
  rw [List.append_assoc]
  refine List.Perm.trans (List.Perm.append_left _ List.perm_append_comm) ?_
  rw [← List.append_assoc, List.take_append_drop]
theorem fam_of {xs ys : List Int} (hp : xs.Perm ys) (ho : xs.Pairwise fun a b => size a 64 ≤ size b 64) (hl : ys.Pairwise fun a b => a < b) (hm : ∀ y ∈ ys, 0 ≤ y ∧ y < 32) : Fam xs :=
  ⟨hp.nodup_iff.2 (hl.imp fun h => by omega), fun x hx => hm x (hp.mem_iff.1 hx), ho⟩
end Go.Fw.Gu
end

section
/-! what the laws All, Either and More say, in plain words -/
namespace Go.Fw.Gu
theorem fam_r {xs : List Int} (h : Fam xs) : ∀ x ∈ xs, R64 x := fun x hx => by have := h.2.1 x hx; exact ⟨by omega, by omega⟩
theorem min_ix {xs : List Int} {M : List Bool} (hn : xs.Nodup) (hM : M.length = xs.length) {y : Int} (hy : y ∈ minl xs M) : 0 ≤ ixF (fun t => decide (y = t)) xs ∧ ixF (fun t => decide (y = t)) xs < M.length ∧ M.getD (ixF (fun t => decide (y = t)) xs).toNat false = true := by
  obtain ⟨j, hj, h1, h2⟩ := mkd_iff.1 (minl_iff.1 hy).1
  rw [ixF_nodup hn hj h2]
  exact ⟨by omega, by omega, by simpa using h1⟩
theorem min_inc {xs : List Int} {M : List Bool} {y t : Int} (hy : y ∈ minl xs M) (ht : t ∈ minl xs M) (h : t ≠ y) : wi t y = false := (minl_iff.1 hy).2 t (minl_iff.1 ht).1 h
theorem nodup_one {l : List Int} {x : Int} (hn : l.Nodup) (h : ∀ y, y ∈ l ↔ y = x) : l = [x] := by
  cases l with
  | nil => have := (h x).2 rfl; cases this
  | cons a l =>
    obtain rfl := (h a).1 (by simp)
    cases l with
    | nil => rfl
    | cons b l =>
      obtain rfl := (h b).1 (by simp)
      simp at hn
theorem old_iff {xs : List Int} {M : List Bool} (hM : M.length = xs.length) : older xs M = true ↔ (0 : Int) ∈ mkd xs M xs.length := by
  unfold older
  rw [mkd_iff, List.any_eq_true, hM]
  constructor
  · rintro ⟨j, hj, h⟩
    rw [Bool.and_eq_true, decide_eq_true_eq] at h
    exact ⟨j, List.mem_range.1 hj, h.1, h.2⟩
  · rintro ⟨j, hj, h1, h2⟩
    exact ⟨j, List.mem_range.2 hj, by rw [h1, h2]; rfl⟩
theorem all_old {xs : List Int} {xb M : List Bool} (hr : ∀ x ∈ xs, R64 x) (hf : fitsB xs.length xb M = true) : gOld xs xb M = decide (gl xs xb M = [0]) := by
  have hM := (fits_use hf).1
  unfold gOld
  rw [hf, gl_fit hf, Bool.true_and]
  rw [Bool.eq_iff_iff, old_iff hM, decide_eq_true_eq]
  constructor
  · intro h0
    refine nodup_one (minl_nodup xs M) fun y => ?_
    rw [minl_iff]
    constructor
    · rintro ⟨h1, h2⟩
      by_cases hy : y = 0
      · exact hy
      · have := h2 0 h0 (fun e => hy e.symm)
        rw [wi_zero] at this
        cases this
    · rintro rfl
      refine ⟨h0, fun t ht hne => ?_⟩
      cases h : wi t 0 with
      | false => rfl
      | true => exact absurd (wi_zero' (hr t (mkd_mem _ _ _ (Nat.le_refl _) t ht)) h) hne
  · intro h
    have : (0 : Int) ∈ minl xs M := by rw [h]; simp
    exact (minl_iff.1 this).1
theorem any_take {p : Int → Bool} {l : List Int} {j : Nat} (h : j < l.length) : (l.take (j + 1)).any p = ((l.take j).any p || p (l.getD j 0)) := by
  rw [take_snoc' h, List.any_append]
  simp
theorem all_bad {xs : List Int} {M : List Bool} (hr : ∀ x ∈ xs, R64 x) {i : Nat} (hi : i < xs.length) (h : M.getD i false = true) : (minl xs M).any (fun y => wi y (xs.getD i 0)) = true := by
  obtain ⟨y, hy, h2⟩ := min_in hr (mkd_iff.2 ⟨i, hi, h, rfl⟩)
  exact List.any_eq_true.2 ⟨y, hy, h2⟩
end Go.Fw.Gu
end

section
/-! one more marked set -/
namespace Go.Fw.Gu
variable {xs : List Int} {M : List Bool} {k : Nat}
theorem set_getD (M : List Bool) {k j : Nat} (hk : k < M.length) : (M.set k true).getD j false = (decide (j = k) || M.getD j false) := by
  rw [List.getD_eq_getElem?_getD, List.getD_eq_getElem?_getD, List.getElem?_set]
  by_cases h : k = j
  · subst h; simp [hk]
  · rw [if_neg h]
    have : ¬ j = k := fun e => h e.symm
    simp [this]
theorem mkd_more (hk : k < xs.length) (hkM : k < M.length) {x : Int} : x ∈ mkd xs (M.set k true) xs.length ↔ x ∈ mkd xs M xs.length ∨ x = xs.getD k 0 := by
  rw [mkd_iff, mkd_iff]
  constructor
  · rintro ⟨j, hj, h1, h2⟩
    rw [set_getD M hkM, Bool.or_eq_true, decide_eq_true_eq] at h1
    rcases h1 with rfl | h1
    · exact .inr h2.symm
    · exact .inl ⟨j, hj, h1, h2⟩
  · rintro (⟨j, hj, h1, h2⟩ | rfl)
    · exact ⟨j, hj, by rw [set_getD M hkM, h1, Bool.or_true], h2⟩
    · exact ⟨k, hk, by rw [set_getD M hkM]; simp, rfl⟩
variable (hn : xs.Nodup) (hr : ∀ x ∈ xs, R64 x) (hk : k < xs.length) (hkM : k < M.length) (hu : M.getD k false = false)
include hn hr hk hkM hu
theorem more_not : xs.getD k 0 ∉ mkd xs M xs.length := fun h => by
  rw [mkd_at hn hk, hu] at h
  cases h
theorem more_old {y : Int} (hy : y ∈ minl xs M) : decide (y ∈ minl xs (M.set k true)) = !wi (xs.getD k 0) y := by
  have hy' := minl_iff.1 hy
  have hne : xs.getD k 0 ≠ y := fun e => more_not hn hr hk hkM hu (e ▸ hy'.1)
  cases hw : wi (xs.getD k 0) y with
  | true =>
    refine decide_eq_false fun h => ?_
    have := (minl_iff.1 h).2 _ ((mkd_more hk hkM).2 (.inr rfl)) hne
    rw [hw] at this
    cases this
  | false =>
    refine decide_eq_true (minl_iff.2 ⟨(mkd_more hk hkM).2 (.inl hy'.1), fun t ht htn => ?_⟩)
    rcases (mkd_more hk hkM).1 ht with ht | rfl
    · exact hy'.2 t ht htn
    · exact hw
theorem more_new : decide (xs.getD k 0 ∈ minl xs (M.set k true)) = (minl xs M).all fun y => !wi y (xs.getD k 0) := by
  have hrm := fun t ht => hr t (mkd_mem xs M _ (Nat.le_refl _) t ht)
  have hrk := hr _ (getD_mem' hk)
  rw [Bool.eq_iff_iff, decide_eq_true_eq, List.all_eq_true]
  constructor
  · intro h y hy
    have hy' := (minl_iff.1 hy).1
    rw [(minl_iff.1 h).2 y ((mkd_more hk hkM).2 (.inl hy')) (fun e => more_not hn hr hk hkM hu (e ▸ hy'))]
    rfl
  · intro h
    refine minl_iff.2 ⟨(mkd_more hk hkM).2 (.inr rfl), fun t ht htn => ?_⟩
    rcases (mkd_more hk hkM).1 ht with ht | rfl
    · cases hw : wi t (xs.getD k 0) with
      | false => rfl
      | true =>
        obtain ⟨y, hy, h2⟩ := min_in hr ht
        have := h y hy
        rw [wi_trans (hrm y (minl_iff.1 hy).1) (hrm t ht) h2 hw] at this
        cases this
    · exact absurd rfl htn
theorem more_len : ((minl xs (M.set k true)).length : Int) = (((minl xs M).filter fun y => !wi (xs.getD k 0) y).length : Int) + (if ((minl xs M).all fun y => !wi y (xs.getD k 0)) = true then 1 else 0) := by
  have hp : (minl xs (M.set k true)).Perm (((minl xs M).filter fun y => !wi (xs.getD k 0) y) ++ (if ((minl xs M).all fun y => !wi y (xs.getD k 0)) = true then [xs.getD k 0] else [])) := by
    have hnb : ∀ y ∈ (minl xs M).filter fun y => !wi (xs.getD k 0) y, y ≠ xs.getD k 0 := fun y hy e => more_not hn hr hk hkM hu (e ▸ (minl_iff.1 (List.mem_filter.1 hy).1).1)
    refine (List.perm_ext_iff_of_nodup (minl_nodup _ _) (List.nodup_append.2 ⟨(minl_nodup xs M).filter _, by split <;> simp, fun a ha b hb => ?_⟩)).2 fun y => ?_
    · split at hb
      · rw [List.mem_singleton.1 hb]; exact hnb a ha
      · cases hb
    · rw [List.mem_append, List.mem_filter]
      constructor
      · intro h
        rcases (mkd_more hk hkM).1 (minl_iff.1 h).1 with hm | rfl
        · left
          have hy : y ∈ minl xs M := minl_iff.2 ⟨hm, fun t ht htn => (minl_iff.1 h).2 t ((mkd_more hk hkM).2 (.inl ht)) htn⟩
          have := more_old hn hr hk hkM hu hy
          rw [decide_eq_true h] at this
          exact ⟨hy, this.symm⟩
        · right
          have := more_new hn hr hk hkM hu
          rw [decide_eq_true h] at this
          rw [if_pos this.symm]
          simp
      · rintro (⟨hy, h⟩ | h)
        · have := more_old hn hr hk hkM hu hy
          rw [h] at this
          exact of_decide_eq_true this
        · split at h
          · rename_i hf
            rw [List.mem_singleton.1 h]
            have := more_new hn hr hk hkM hu
            rw [hf] at this
            exact of_decide_eq_true this
          · cases h
  rw [hp.length_eq, List.length_append]
  split <;> simp
omit hn hr hk hkM hu
theorem more_fit {xb : List Bool} (h : fitsB xs.length xb M = true) (hkM : k < M.length) (hb : xb.getD k false = true) : fitsB xs.length xb (M.set k true) = true := by
  obtain ⟨h1, h2, h3⟩ := fits_use h
  refine fits_ok (by rw [List.length_set, h1]) (by rw [h2]) fun j hj => ?_
  rw [List.length_set] at hj
  rw [set_getD M hkM]
  have := h3 j hj
  by_cases hjk : j = k
  · subst hjk; rw [hb]; simp
  · simp [hjk]; simpa using this
theorem filter_take {p : Int → Bool} {l : List Int} {j : Nat} (h : j < l.length) : (((l.take (j + 1)).filter p).length : Int) = ((l.take j).filter p).length + (if p (l.getD j 0) = true then 1 else 0) := by
  rw [take_snoc' h, List.filter_append, List.length_append]
  by_cases hp : p (l.getD j 0) = true
  · rw [if_pos hp, List.filter_cons_of_pos hp]; simp
  · rw [if_neg hp, List.filter_cons_of_neg hp]; simp
theorem all_take {p : Int → Bool} {l : List Int} {j : Nat} (h : j < l.length) : (l.take (j + 1)).all p = ((l.take j).all p && p (l.getD j 0)) := by
  rw [take_snoc' h, List.all_append]
  simp
end Go.Fw.Gu
end

section
/-! the part of a lattice that is in one set -/
namespace Go.Fw.Gu
def ptX (xs : List Int) (s : Int) : Nat → List Int
  | 0 => []
  | k + 1 => if wi (xs.getD k 0) s then ptX xs s k ++ [xs.getD k 0] else ptX xs s k
def ptB (xs : List Int) (s : Int) (bs : List Bool) : Nat → List Bool
  | 0 => []
  | k + 1 => if wi (xs.getD k 0) s then ptB xs s bs k ++ [bs.getD k false] else ptB xs s bs k
theorem ptX_step {xs : List Int} {s : Int} {k : Nat} (h : wi (xs.getD k 0) s = true) : ptX xs s (k + 1) = ptX xs s k ++ [xs.getD k 0] := by rw [ptX, if_pos h]
theorem ptX_stay {xs : List Int} {s : Int} {k : Nat} (h : wi (xs.getD k 0) s = false) : ptX xs s (k + 1) = ptX xs s k := by rw [ptX, if_neg (by rw [h]; decide)]
theorem ptB_step {xs : List Int} {s : Int} {bs : List Bool} {k : Nat} (h : wi (xs.getD k 0) s = true) : ptB xs s bs (k + 1) = ptB xs s bs k ++ [bs.getD k false] := by rw [ptB, if_pos h]
theorem ptB_stay {xs : List Int} {s : Int} {bs : List Bool} {k : Nat} (h : wi (xs.getD k 0) s = false) : ptB xs s bs (k + 1) = ptB xs s bs k := by rw [ptB, if_neg (by rw [h]; decide)]
theorem ptB_len (xs : List Int) (s : Int) (bs : List Bool) : ∀ k, (ptB xs s bs k).length = (ptX xs s k).length
  | 0 => rfl
  | k + 1 => by
    have := ptB_len xs s bs k
    rw [ptX, ptB]
    split <;> simp [this]
theorem ptX_len (xs : List Int) (s : Int) : ∀ k, (ptX xs s k).length ≤ k
  | 0 => Nat.le_refl _
  | k + 1 => by
    have := ptX_len xs s k
    rw [ptX]
    split
    · simp; omega
    · omega
theorem ptX_mem (xs : List Int) (s : Int) : ∀ k, k ≤ xs.length → ∀ x ∈ ptX xs s k, x ∈ xs
  | 0, _, x, h => by cases h
  | k + 1, hk, x, h => by
    rw [ptX] at h
    split at h
    · rcases List.mem_append.1 h with h | h
      · exact ptX_mem xs s k (by omega) x h
      · rw [List.mem_singleton.1 h]; exact getD_mem' (by omega)
    · exact ptX_mem xs s k (by omega) x h
theorem zip_take {xs : List Int} {bs : List Bool} (h : bs.length = xs.length) {k : Nat} (hk : k < xs.length) : (xs.zip bs).take (k + 1) = (xs.zip bs).take k ++ [(xs.getD k 0, bs.getD k false)] := by
  have hl : k < (xs.zip bs).length := by rw [List.length_zip]; omega
  rw [List.take_succ_eq_append_getElem hl]
  congr 2
  simp [List.getElem_zip, hk, h]
theorem mkd_zip {xs : List Int} {bs : List Bool} (h : bs.length = xs.length) : ∀ k, k ≤ xs.length → mkd xs bs k = (((xs.zip bs).take k).filter fun p => p.2).map fun p => p.1
  | 0, _ => by simp [mkd]
  | k + 1, hk => by
    rw [zip_take h (by omega), List.filter_append, List.map_append, ← mkd_zip h k (by omega), mkd]
    cases bs.getD k false <;> simp
theorem mkd_all {xs : List Int} {bs : List Bool} (h : bs.length = xs.length) : mkd xs bs xs.length = ((xs.zip bs).filter fun p => p.2).map fun p => p.1 := by
  rw [mkd_zip h _ (Nat.le_refl _), List.take_of_length_le (by rw [List.length_zip]; omega)]
theorem pt_zip {xs : List Int} {bs : List Bool} (s : Int) (h : bs.length = xs.length) : ∀ k, k ≤ xs.length → (ptX xs s k).zip (ptB xs s bs k) = ((xs.zip bs).take k).filter fun p => wi p.1 s
  | 0, _ => by simp [ptX]
  | k + 1, hk => by
    rw [zip_take h (by omega), List.filter_append, ← pt_zip s h k (by omega), ptX, ptB]
    cases hw : wi (xs.getD k 0) s with
    | false =>
      rw [if_neg (by decide), if_neg (by decide), List.filter_cons_of_neg (by show ¬ (wi (xs.getD k 0) s = true); rw [hw]; decide)]
      simp
    | true =>
      rw [if_pos rfl, if_pos rfl, List.zip_append (ptB_len xs s bs k).symm, List.filter_cons_of_pos (by show wi (xs.getD k 0) s = true; exact hw)]
      simp
theorem mkd_part {xs : List Int} {bs : List Bool} (s : Int) (h : bs.length = xs.length) : mkd (ptX xs s xs.length) (ptB xs s bs xs.length) (ptX xs s xs.length).length = (mkd xs bs xs.length).filter fun y => wi y s := by
  rw [mkd_all (ptB_len xs s bs xs.length), mkd_all h, pt_zip s h _ (Nat.le_refl _), List.take_of_length_le (by rw [List.length_zip]; omega), List.filter_map, List.filter_filter, List.filter_filter]
  congr 1
  apply List.filter_congr
  intro p _
  simp [Bool.and_comm]
theorem extr_filter (b : Int → Int → Bool) {l : List Int} (hn : l.Nodup) : ∀ k, k ≤ l.length → extr b l k = (l.take k).filter fun x => !(l.any fun t => !decide (t = x) && b t x)
  | 0, _ => by simp [extr]
  | k + 1, hk => by
    have ih := extr_filter b hn k (by omega)
    have hnot : l.getD k 0 ∉ extr b l k := by
      rw [extr_iff]
      rintro ⟨⟨j, hj, e⟩, _⟩
      have := nodup_getD hn (by omega) (by omega) e
      omega
    rw [take_snoc' (by omega), List.filter_append, ← ih, extr, decide_eq_false hnot]
    cases hb : (l.any fun t => !decide (t = l.getD k 0) && b t (l.getD k 0)) with
    | true => rw [List.filter_cons_of_neg (by simp only [hb]; decide)]; simp
    | false => rw [List.filter_cons_of_pos (by simp only [hb]; decide)]; simp
theorem mkd_nodup {xs : List Int} (bs : List Bool) (hn : xs.Nodup) (h : bs.length = xs.length) : (mkd xs bs xs.length).Nodup := by
  rw [mkd_all h]
  have : (((xs.zip bs).filter fun p => p.2).map fun p => p.1).Sublist xs := by
    refine (List.filter_sublist.map _).trans ?_
    rw [List.map_fst_zip (by omega)]
    exact List.Sublist.refl _
  exact hn.sublist this
theorem within_law {xs : List Int} {M : List Bool} {s : Int} (hn : xs.Nodup) (hr : ∀ x ∈ xs, R64 x) (h : M.length = xs.length) : minl (ptX xs s xs.length) (ptB xs s M xs.length) = (minl xs M).filter fun y => wi y s := by
  have hrm := fun t ht => hr t (mkd_mem xs M _ (Nat.le_refl _) t ht)
  have hnm := mkd_nodup M hn h
  unfold minl
  rw [mkd_part s h]
  generalize hl : mkd xs M xs.length = l at hrm hnm
  rw [extr_filter wi (hnm.filter _) _ (Nat.le_refl _), extr_filter wi hnm _ (Nat.le_refl _), List.take_length, List.take_length, List.filter_filter, List.filter_filter]
  apply List.filter_congr
  intro x hx
  cases hw : wi x s with
  | false => simp
  | true =>
    simp only [Bool.and_true, Bool.true_and]
    congr 1
    rw [List.any_filter]
    rw [Bool.eq_iff_iff, List.any_eq_true, List.any_eq_true]
    constructor
    · rintro ⟨t, ht, h2⟩
      simp only [Bool.and_eq_true] at h2
      exact ⟨t, ht, by simp only [Bool.and_eq_true]; exact h2.2⟩
    · rintro ⟨t, ht, h2⟩
      simp only [Bool.and_eq_true] at h2
      exact ⟨t, ht, by simp only [Bool.and_eq_true]; exact ⟨wi_trans (hrm t ht) (hrm x hx) h2.2 hw, h2⟩⟩
theorem ptB_fit {xs : List Int} (s : Int) {xb M : List Bool} (hf : ∀ j, (M.getD j false && !xb.getD j false) = false) : ∀ k j, ((ptB xs s M k).getD j false && !(ptB xs s xb k).getD j false) = false
  | 0, j => by simp [ptB]
  | k + 1, j => by
    have ih := ptB_fit s hf (xs := xs) k j
    have h1 := ptB_len xs s M k
    have h2 := ptB_len xs s xb k
    rw [ptB, ptB]
    split
    · have e : ∀ (l : List Bool) (y : Bool), l.length = (ptX xs s k).length → (l ++ [y]).getD j false = if j < (ptX xs s k).length then l.getD j false else if j = (ptX xs s k).length then y else false := fun l y hl => by
        rw [List.getD_eq_getElem?_getD, List.getElem?_append, hl]
        split
        · rw [← List.getD_eq_getElem?_getD]
        · by_cases hj : j = (ptX xs s k).length
          · subst hj; simp
          · rw [if_neg hj, List.getElem?_eq_none (by simp; omega)]; rfl
      rw [e _ _ h1, e _ _ h2]
      split
      · exact ih
      · split
        · exact hf k
        · rfl
    · exact ih
theorem fits_all {n : Nat} {xb M : List Bool} (h : fitsB n xb M = true) : ∀ j, (M.getD j false && !xb.getD j false) = false := fun j => by
  obtain ⟨h1, h2, h3⟩ := fits_use h
  by_cases hj : j < M.length
  · exact h3 j hj
  · rw [List.getD_eq_getElem?_getD, List.getElem?_eq_none (by omega)]; rfl
theorem part_fit {xs : List Int} {xb M : List Bool} (s : Int) (h : fitsB xs.length xb M = true) : fitsB (ptX xs s xs.length).length (ptB xs s xb xs.length) (ptB xs s M xs.length) = true :=
  fits_ok (by rw [ptB_len]) (by rw [ptB_len]) fun j _ => ptB_fit s (fits_all h) _ j
theorem inr_range (xs : List Int) (s : Int) : ∀ k, R64 (inr xs s k)
  | 0 => ⟨by simp [inr], by simp [inr]⟩
  | k + 1 => by
    rw [inr]
    split
    · unfold ior
      rw [wrap_toInt]
      have h1 := BitVec.toInt_lt (x := BitVec.ofInt 64 (inr xs s k) ||| BitVec.ofInt 64 (xs.getD k 0))
      have h2 := BitVec.le_toInt (x := BitVec.ofInt 64 (inr xs s k) ||| BitVec.ofInt 64 (xs.getD k 0))
      exact ⟨by omega, by omega⟩
    · exact inr_range xs s k
theorem wrap_range (b : BitVec 64) : R64 (IntKind.i64.wrap (b.toNat : Int)) := by
  rw [wrap_toInt]
  have h1 := BitVec.toInt_lt (x := b)
  have h2 := BitVec.le_toInt (x := b)
  exact ⟨by omega, by omega⟩
end Go.Fw.Gu
namespace Go.Fw.Gu
theorem fl_step {p : Int → Bool} {l : List Int} {j : Nat} (hj : j < l.length) (h : p (l.getD j 0) = true) : (l.take (j + 1)).filter p = (l.take j).filter p ++ [l.getD j 0] := by
  rw [take_snoc' hj, List.filter_append, List.filter_cons_of_pos h]
  rfl
theorem fl_stay {p : Int → Bool} {l : List Int} {j : Nat} (hj : j < l.length) (h : p (l.getD j 0) = false) : (l.take (j + 1)).filter p = (l.take j).filter p := by
  rw [take_snoc' hj, List.filter_append, List.filter_cons_of_neg (by rw [h]; decide), List.filter_nil, List.append_nil]
end Go.Fw.Gu
end

section
/-! hidden sets, sets kept closed, sets guilty together -/
namespace Go.Fw.Gu
/-- Badness kept by further edits, among the first i sets. -/
def Up (xs : List Int) (xb M : List Bool) (i : Nat) : Prop := ∀ a, a < i → ∀ k, k < a → xb.getD a false = true → M.getD k false = true → wi (xs.getD k 0) (xs.getD a 0) = true → M.getD a false = true
/-- The same of one set, against the first k. -/
def Upk (xs : List Int) (xb M : List Bool) (a k : Nat) : Prop := ∀ j, j < k → xb.getD a false = true → M.getD j false = true → wi (xs.getD j 0) (xs.getD a 0) = true → M.getD a false = true
theorem setv_getD (M : List Bool) {i j : Nat} (b : Bool) (hi : i < M.length) : (M.set i b).getD j false = if j = i then b else M.getD j false := by
  rw [List.getD_eq_getElem?_getD, List.getD_eq_getElem?_getD, List.getElem?_set]
  by_cases h : i = j
  · subst h; simp [hi]
  · rw [if_neg h, if_neg (fun e => h e.symm)]
theorem up_fit {n : Nat} {xb M : List Bool} {i : Nat} {b : Bool} (h : fitsB n xb M = true) (hi : i < M.length) (hb : b = true → xb.getD i false = true) : fitsB n xb (M.set i b) = true := by
  obtain ⟨h1, h2, h3⟩ := fits_use h
  refine fits_ok (by rw [List.length_set, h1]) (by rw [h2]) fun j hj => ?_
  rw [List.length_set] at hj
  rw [setv_getD M b hi]
  have := h3 j hj
  by_cases hjk : j = i
  · subst hjk
    rw [if_pos rfl]
    cases b with
    | false => rfl
    | true => rw [hb rfl]; rfl
  · rw [if_neg hjk]; exact this
theorem up_b {xs : List Int} {xb M : List Bool} {n i k : Nat} (h : fitsB n xb M = true) : (M.getD i false || ((xb.getD i false && M.getD k false) && wi (xs.getD k 0) (xs.getD i 0))) = true → xb.getD i false = true := fun h2 => by
  have := fits_all h i
  cases hb : xb.getD i false with
  | true => rfl
  | false =>
    rw [hb] at this h2
    simp at this h2
    rw [this] at h2
    cases h2
theorem up_keep {xs : List Int} {xb M : List Bool} {i : Nat} {b : Bool} (hi : i < M.length) (h : Up xs xb M i) : Up xs xb (M.set i b) i := fun a ha k hk h1 h2 h3 => by
  rw [setv_getD M b hi, if_neg (by omega)] at h2 ⊢
  exact h a ha k hk h1 h2 h3
theorem upk_step {xs : List Int} {xb M : List Bool} {i k : Nat} (hi : i < M.length) (hk : k < i) (h : Upk xs xb M i k) : Upk xs xb (M.set i (M.getD i false || ((xb.getD i false && M.getD k false) && wi (xs.getD k 0) (xs.getD i 0)))) i (k + 1) := fun j hj h1 h2 h3 => by
  rw [setv_getD M _ hi, if_neg (by omega)] at h2
  rw [setv_getD M _ hi, if_pos rfl]
  by_cases hjk : j = k
  · subst hjk
    rw [h1, h2, h3]
    simp
  · rw [h j (by omega) h1 h2 h3]
    rfl
theorem up_next {xs : List Int} {xb M : List Bool} {i : Nat} (h : Up xs xb M i) (hk : Upk xs xb M i i) : Up xs xb M (i + 1) := fun a ha k hka h1 h2 h3 => by
  by_cases hai : a = i
  · subst hai; exact hk k hka h1 h2 h3
  · exact h a (by omega) k hka h1 h2 h3
def sizeT (x : Int) : Int := [0,1,1,2,1,2,2,3,1,2,2,3,2,3,3,4,1,2,2,3,2,3,3,4,2,3,3,4,3,4,4,5].getD x.toNat 0
theorem size_tbl : ∀ k : Fin 32, size (k.val : Int) 64 = sizeT (k.val : Int) := by decide +kernel
theorem wi_tbl : ∀ a b : Fin 32, wi (a.val : Int) (b.val : Int) = true → a = b ∨ sizeT (a.val : Int) < sizeT (b.val : Int) := by decide +kernel
theorem size_lt {a b : Int} (ha : 0 ≤ a ∧ a < 32) (hb : 0 ≤ b ∧ b < 32) (h : wi a b = true) (hne : a ≠ b) : size a 64 < size b 64 := by
  have h1 := size_tbl ⟨a.toNat, by omega⟩
  have h2 := size_tbl ⟨b.toNat, by omega⟩
  have h3 := wi_tbl ⟨a.toNat, by omega⟩ ⟨b.toNat, by omega⟩
  simp only [Int.toNat_of_nonneg ha.1, Int.toNat_of_nonneg hb.1] at h1 h2 h3
  rw [h1, h2]
  rcases h3 h with e | e
  · rw [Fin.mk.injEq] at e; omega
  · exact e
theorem fltr_iff (p : Int → Int → Bool) (l : List Int) : ∀ k, ∀ x, x ∈ fltr p l k ↔ ∃ j : Nat, j < k ∧ l.getD j 0 = x ∧ p j x = true
  | 0, x => by simp [fltr]
  | k + 1, x => by
    have ih := fltr_iff p l k
    rw [fltr]
    split
    · rename_i h
      rw [Bool.and_eq_true] at h
      rw [List.mem_append, List.mem_singleton, ih]
      constructor
      · rintro (⟨j, hj, h1, h2⟩ | rfl)
        · exact ⟨j, by omega, h1, h2⟩
        · exact ⟨k, by omega, rfl, h.1⟩
      · rintro ⟨j, hj, h1, h2⟩
        by_cases hjk : j = k
        · subst hjk; exact .inr h1.symm
        · exact .inl ⟨j, by omega, h1, h2⟩
    · rename_i h
      rw [ih]
      constructor
      · rintro ⟨j, hj, h1, h2⟩
        exact ⟨j, by omega, h1, h2⟩
      · rintro ⟨j, hj, h1, h2⟩
        by_cases hjk : j = k
        · subst hjk
          subst h1
          rw [h2, Bool.true_and, Bool.not_eq_true', Bool.not_eq_false, decide_eq_true_eq] at h
          exact (ih _).1 h
        · exact ⟨j, by omega, h1, h2⟩
section
variable {xs : List Int} {xb M : List Bool} (hn : xs.Nodup) (hr : ∀ x ∈ xs, R64 x) (hf : fitsB xs.length xb M = true)
include hn hf
/-- Whether a set is hidden. -/
theorem hid_at {i : Nat} (hi : i < xs.length) : decide (xs.getD i 0 ∈ hid xs xb M) = (xb.getD i false && !M.getD i false && (gl xs xb M).any fun y => wi y (xs.getD i 0)) := by
  unfold hid
  rw [if_pos hf, Bool.eq_iff_iff, decide_eq_true_eq, fltr_iff]
  constructor
  · rintro ⟨j, hj, h1, h2⟩
    obtain rfl := nodup_getD hn hj hi h1
    unfold hp at h2
    rwa [Int.toNat_natCast] at h2
  · intro h
    refine ⟨i, hi, rfl, ?_⟩
    unfold hp
    rwa [Int.toNat_natCast]
include hr
theorem hid_none (hs : xs.Pairwise fun a b => size a 64 ≤ size b 64) (h32 : ∀ x ∈ xs, 0 ≤ x ∧ x < 32) (hu : Up xs xb M xs.length) : hid xs xb M = [] := by
  apply List.eq_nil_iff_forall_not_mem.2
  intro x hx
  obtain ⟨i, hi, rfl⟩ := getD_lt (hid_mem x hx)
  have h := hid_at hn hf hi
  rw [decide_eq_true hx] at h
  have h := h.symm
  rw [Bool.and_eq_true, Bool.and_eq_true, Bool.not_eq_true', List.any_eq_true] at h
  obtain ⟨⟨h1, h2⟩, y, hy, h3⟩ := h
  rw [gl_fit hf] at hy
  obtain ⟨k, hk, h4, rfl⟩ := mkd_iff.1 (minl_iff.1 hy).1
  rcases Nat.lt_trichotomy k i with hki | rfl | hki
  · rw [hu i hi k hki h1 h4 h3] at h2
    cases h2
  · rw [h4] at h2
    cases h2
  · have e : ∀ j, j < xs.length → xs.getD j 0 = xs.getD j 0 := fun _ _ => rfl
    have hlt := size_lt (h32 _ (getD_mem' hk)) (h32 _ (getD_mem' hi)) h3 (fun e => by have := nodup_getD hn hk hi e; omega)
    have hle := List.pairwise_iff_getElem.1 hs i k hi hk hki
    rw [List.getD_eq_getElem?_getD, List.getD_eq_getElem?_getD, List.getElem?_eq_getElem hk, List.getElem?_eq_getElem hi] at hlt
    simp only [Option.getD_some] at hlt
    omega
end
theorem tog_mem {xs : List Int} {xb : List Bool} {G : List Int} : ∀ {k : Nat}, k ≤ G.length → ∀ {t : List Int}, t ∈ tog xs xb G k → ∃ g ∈ G, okT xs xb g = true ∧ t = g :: blw xs g
  | 0, _, t, h => by simp [tog] at h
  | k + 1, hk, t, h => by
    rw [tog] at h
    split at h
    · rename_i ho
      rcases List.mem_append.1 h with h | h
      · exact tog_mem (by omega) h
      · exact ⟨G.getD k 0, getD_mem' (by omega), ho, List.mem_singleton.1 h⟩
    · exact tog_mem (by omega) h
/-- What Together's lists are. -/
theorem tog_at {xs : List Int} {xb M : List Bool} (hn : xs.Nodup) (hf : fitsB xs.length xb M = true) {T : List (List Int)} (hT : T = tog xs xb (gl xs xb M) (gl xs xb M).length) {i : Nat} (hi : i < T.length) :
    3 ≤ (T.getD i []).length ∧ (T.getD i []).length ≤ xs.length + 1 ∧ (T.getD i []).getD 0 0 ∈ gl xs xb M ∧ ∀ j, 1 ≤ j → j < (T.getD i []).length → 0 ≤ ixF (fun t => decide ((T.getD i []).getD j 0 = t)) xs ∧ ixF (fun t => decide ((T.getD i []).getD j 0 = t)) xs < xs.length ∧ M.getD (ixF (fun t => decide ((T.getD i []).getD j 0 = t)) xs).toNat false = false ∧ xb.getD (ixF (fun t => decide ((T.getD i []).getD j 0 = t)) xs).toNat false = true := by
  have hm : T.getD i [] ∈ tog xs xb (gl xs xb M) (gl xs xb M).length := by
    rw [← hT, List.getD_eq_getElem?_getD, List.getElem?_eq_getElem hi]
    exact List.getElem_mem hi
  generalize T.getD i [] = t at hm
  obtain ⟨g, hg, ho, rfl⟩ := tog_mem (Nat.le_refl _) hm
  have hbl := blw_len xs g
  unfold okT at ho
  rw [Bool.and_eq_true, decide_eq_true_eq, List.all_eq_true] at ho
  refine ⟨by simp only [List.length_cons]; omega, by simp only [List.length_cons]; omega, hg, fun j hj1 hj2 => ?_⟩
  obtain ⟨j, rfl⟩ : ∃ j', j = j' + 1 := ⟨j - 1, by omega⟩
  simp only [List.length_cons] at hj2
  rw [List.getD_cons_succ]
  have hy : (blw xs g).getD j 0 ∈ blw xs g := getD_mem' (by omega)
  have hyx := blw_mem _ hy
  have hix := ixF_in hyx
  refine ⟨hix.1, hix.2, ?_, ho.2 _ hy⟩
  have hyk : (blw xs g).getD j 0 ∈ kept g xs := extr_mem _ _ _ (Nat.le_refl _) _ hy
  have hd := (List.mem_filter.1 hyk).2
  rw [del_eq, Bool.and_eq_true, Bool.not_eq_true', decide_eq_false_iff_not] at hd
  obtain ⟨i', hi', e⟩ := getD_lt hyx
  rw [ixF_nodup hn hi' e, Int.toNat_natCast]
  cases hM : M.getD i' false with
  | false => rfl
  | true =>
    rw [gl_fit hf] at hg
    have := (minl_iff.1 hg).2 _ (mkd_iff.2 ⟨i', hi', hM, e⟩) hd.1
    rw [hd.2] at this
    cases this
/-- All that Either asks of one set. -/
theorem either_set {hd m b fr : Bool} (h1 : hd = (b && !m && !fr)) (h2 : m = true → fr = false) (h3 : m = true → b = true) : (((hd && ((m || fr) || !b)) || (((b && !m) && !hd) && !fr)) || (m && fr)) = false := by
  subst h1
  cases b <;> cases m <;> cases fr <;> simp_all
end Go.Fw.Gu
namespace Go.Fw.Gu
theorem not_all {p : Int → Bool} : ∀ {l : List Int}, (!(l.all fun y => !p y)) = l.any p
  | [] => rfl
  | a :: l => by rw [List.all_cons, List.any_cons, Bool.not_and, Bool.not_not, not_all]
end Go.Fw.Gu
end

section
/-! keys, classes, proofs -/
namespace Go.Fw.Gu
/-- A list of n numbers, the first i of which are told. -/
def pm (f : Nat → Int) (n i : Nat) : List Int := (List.range n).map fun j => if j < i then f j else 0
theorem pm_len (f : Nat → Int) (n i : Nat) : (pm f n i).length = n := by simp [pm]
theorem pm_0 (f : Nat → Int) (n : Nat) : List.replicate n (0 : Int) = pm f n 0 := by
  apply List.ext_getElem (by simp [pm])
  intro j h1 h2
  simp [pm]
theorem pm_set {f : Nat → Int} {n i : Nat} : (pm f n i).set i (f i) = pm f n (i + 1) := by
  apply List.ext_getElem (by simp [pm])
  intro j h1 h2
  rw [List.getElem_set]
  simp only [pm, List.getElem_map, List.getElem_range]
  by_cases h : i = j
  · subst h; simp
  · rw [if_neg h]
    by_cases h3 : j < i
    · rw [if_pos h3, if_pos (by omega)]
    · rw [if_neg h3, if_neg (by omega)]
theorem pm_stay {f : Nat → Int} {n i : Nat} (h : f i = 0) : pm f n i = pm f n (i + 1) := by
  apply List.map_congr_left
  intro j hj
  by_cases h1 : j < i
  · rw [if_pos h1, if_pos (by omega)]
  · by_cases h2 : j = i
    · subst h2; rw [if_neg h1, if_pos (by omega), h]
    · rw [if_neg h1, if_neg (by omega)]
theorem pm_get {f : Nat → Int} {n j : Nat} (h : j < n) : (pm f n n).getD j 0 = f j := by
  rw [List.getD_eq_getElem?_getD, List.getElem?_eq_getElem (by rw [pm_len]; exact h)]
  simp [pm, h]
/-- The first element of a class, among the first i. -/
def fstB (xb : List Bool) (ks : List (List UInt8)) (i : Nat) (key : List UInt8) : Option Nat := (List.range i).find? fun j => xb.getD j false && decide (ks.getD j [] = key)
def clsAt (xb : List Bool) (ks : List (List UInt8)) (i : Nat) : Int := if xb.getD i false then ((fstB xb ks (i + 1) (ks.getD i [])).map Int.ofNat).getD (-1) else -1
def cls (xb : List Bool) (ks : List (List UInt8)) : List Int := pm (clsAt xb ks) ks.length ks.length
theorem fstB_succ (xb : List Bool) (ks : List (List UInt8)) (i : Nat) (key : List UInt8) : fstB xb ks (i + 1) key = (fstB xb ks i key).or (if xb.getD i false && decide (ks.getD i [] = key) then some i else none) := by
  unfold fstB
  rw [List.range_succ, List.find?_append]
  congr 1
  rw [List.find?_cons, List.find?_nil]
  cases (xb.getD i false && decide (ks.getD i [] = key)) <;> rfl
theorem fstB_no {xb : List Bool} {ks : List (List UInt8)} {i : Nat} {key : List UInt8} (h : xb.getD i false = false) : fstB xb ks (i + 1) key = fstB xb ks i key := by
  rw [fstB_succ, h]; simp
theorem fstB_old {xb : List Bool} {ks : List (List UInt8)} {i : Nat} (h : (fstB xb ks i (ks.getD i [])).isSome = true) (key : List UInt8) : fstB xb ks (i + 1) key = fstB xb ks i key := by
  rw [fstB_succ]
  by_cases hk : ks.getD i [] = key
  · subst hk
    obtain ⟨j, hj⟩ := Option.isSome_iff_exists.1 h
    rw [hj]; rfl
  · rw [decide_eq_false hk, Bool.and_false]; simp
theorem fstB_new {xb : List Bool} {ks : List (List UInt8)} {i : Nat} (hb : xb.getD i false = true) (h : (fstB xb ks i (ks.getD i [])).isSome = false) (key : List UInt8) : fstB xb ks (i + 1) key = if key = ks.getD i [] then some i else fstB xb ks i key := by
  rw [fstB_succ, hb]
  by_cases hk : key = ks.getD i []
  · subst hk
    rw [Option.isSome_eq_false_iff, Option.isNone_iff_eq_none] at h
    rw [h, if_pos rfl]
    simp
  · rw [if_neg hk]
    have : ¬ ks.getD i [] = key := fun e => hk e.symm
    simp only [this, decide_false, Bool.and_false, Bool.false_eq_true, if_false, Option.or_none]
theorem clsAt_no {xb : List Bool} {ks : List (List UInt8)} {i : Nat} (h : xb.getD i false = false) : clsAt xb ks i = -1 := by unfold clsAt; rw [if_neg (by rw [h]; decide)]
theorem clsAt_new {xb : List Bool} {ks : List (List UInt8)} {i : Nat} (hb : xb.getD i false = true) (h : (fstB xb ks i (ks.getD i [])).isSome = false) : clsAt xb ks i = i := by
  unfold clsAt
  rw [if_pos hb, fstB_new hb h, if_pos rfl]
  rfl
theorem clsAt_old {xb : List Bool} {ks : List (List UInt8)} {i j : Nat} (hb : xb.getD i false = true) (h : fstB xb ks i (ks.getD i []) = some j) : clsAt xb ks i = j := by
  unfold clsAt
  rw [if_pos hb, fstB_old (by rw [h]; rfl), h]
  rfl
/-- What a map of the firsts holds. -/
def FstM (xb : List Bool) (ks : List (List UInt8)) (i : Nat) (ml : List (List UInt8 × Value)) : Prop := (∀ p ∈ ml, p.1.length = 16) ∧ ∀ key, aget ml key = (fstB xb ks i key).map fun j => vi (j : Int)
theorem FstM.start (xb : List Bool) (ks : List (List UInt8)) : FstM xb ks 0 [] := ⟨fun p h => (by cases h), fun key => rfl⟩
theorem FstM.no {xb : List Bool} {ks : List (List UInt8)} {i : Nat} {ml : List (List UInt8 × Value)} (h : FstM xb ks i ml) (hb : xb.getD i false = false) : FstM xb ks (i + 1) ml := ⟨h.1, fun key => by rw [fstB_no hb]; exact h.2 key⟩
theorem FstM.isS {xb : List Bool} {ks : List (List UInt8)} {i : Nat} {ml : List (List UInt8 × Value)} (h : FstM xb ks i ml) : (aget ml (ks.getD i [])).isSome = (fstB xb ks i (ks.getD i [])).isSome := by rw [h.2]; cases fstB xb ks i (ks.getD i []) <;> rfl
theorem FstM.old {xb : List Bool} {ks : List (List UInt8)} {i : Nat} {ml : List (List UInt8 × Value)} (h : FstM xb ks i ml) (hb : xb.getD i false = true) (hs : (aget ml (ks.getD i [])).isSome = true) : FstM xb ks (i + 1) ml ∧ aget ml (ks.getD i []) = Option.some (vi (clsAt xb ks i)) := by
  rw [h.isS] at hs
  refine ⟨⟨h.1, fun key => by rw [fstB_old hs]; exact h.2 key⟩, ?_⟩
  obtain ⟨j, hj⟩ := Option.isSome_iff_exists.1 hs
  rw [h.2, hj, clsAt_old hb hj]
  rfl
theorem aset_mem {a : List UInt8} {v : Value} : ∀ {l : List (List UInt8 × Value)} {p}, p ∈ aset a v l → p = (a, v) ∨ p ∈ l
  | [], p, h => by simp [aset] at h; exact .inl h
  | q :: l, p, h => by
    rw [aset] at h
    split at h
    · rcases List.mem_cons.1 h with h | h
      · exact .inl h
      · exact .inr (List.mem_cons_of_mem _ h)
    · rcases List.mem_cons.1 h with h | h
      · exact .inr (by rw [h]; simp)
      · rcases aset_mem h with h | h
        · exact .inl h
        · exact .inr (List.mem_cons_of_mem _ h)
theorem FstM.new {xb : List Bool} {ks : List (List UInt8)} {i : Nat} {ml : List (List UInt8 × Value)} (h : FstM xb ks i ml) (hk : (ks.getD i []).length = 16) (hb : xb.getD i false = true) (hs : (aget ml (ks.getD i [])).isSome = false) : FstM xb ks (i + 1) (aset (ks.getD i []) (vi (i : Int)) ml) ∧ clsAt xb ks i = i ∧ aget (aset (ks.getD i []) (vi (i : Int)) ml) (ks.getD i []) = Option.some (vi (i : Int)) := by
  rw [h.isS] at hs
  refine ⟨⟨fun p hp => ?_, fun key => ?_⟩, clsAt_new hb hs, by rw [aget_aset, if_pos rfl]⟩
  · rcases aset_mem hp with rfl | hp
    · exact hk
    · exact h.1 p hp
  · rw [aget_aset, fstB_new hb hs]
    split
    · rfl
    · exact h.2 key
end Go.Fw.Gu
namespace Go.Fw.Gu
/-- A key made of a number. -/
def kyd (m : List Int) (i : Int) : List UInt8 := ofb (atN m i 6) :: List.replicate 15 0
def kys (m : List Int) (n : Nat) : List (List UInt8) := (List.range n).map fun (j : Nat) => kyd m (j : Int)
theorem kys_len (m : List Int) (n : Nat) : (kys m n).length = n := by simp [kys]
theorem kys_16 (m : List Int) (n : Nat) : ∀ x ∈ kys m n, x.length = 16 := fun x hx => by
  obtain ⟨j, _, rfl⟩ := List.mem_map.1 hx
  simp [kyd]
theorem kys_succ (m : List Int) (n : Nat) : kys m (n + 1) = kys m n ++ [kyd m (n : Int)] := by simp [kys, List.range_succ]
end Go.Fw.Gu
namespace Go.Fw.Gu
theorem fstB_lt {xb : List Bool} {ks : List (List UInt8)} {i : Nat} {key : List UInt8} {j : Nat} (h : fstB xb ks i key = some j) : j < i ∧ xb.getD j false = true ∧ ks.getD j [] = key := by
  unfold fstB at h
  have h1 := List.mem_of_find?_eq_some h
  have h2 := List.find?_some h
  rw [Bool.and_eq_true, decide_eq_true_eq] at h2
  exact ⟨List.mem_range.1 h1, h2.1, h2.2⟩
theorem clsAt_rng (xb : List Bool) (ks : List (List UInt8)) (i : Nat) : -1 ≤ clsAt xb ks i ∧ clsAt xb ks i ≤ i := by
  unfold clsAt
  split
  · cases h : fstB xb ks (i + 1) (ks.getD i []) with
    | none => simp
    | some j => have := (fstB_lt h).1; simp; omega
  · omega
theorem cls_rng {xb : List Bool} {ks : List (List UInt8)} (hn : ks.length < 1048576) : ∀ x ∈ cls xb ks, -9223372036854775808 ≤ x ∧ x ≤ 9223372036854775807 := fun x hx => by
  unfold cls pm at hx
  obtain ⟨j, hj, rfl⟩ := List.mem_map.1 hx
  have h1 := clsAt_rng xb ks j
  have := List.mem_range.1 hj
  split <;> omega
end Go.Fw.Gu
namespace Go.Fw.Gu
/-- Whether a class has unequal marks. -/
def dif (xb : List Bool) (ks : List (List UInt8)) (bs : List Bool) (i : Nat) : Bool := decide (0 ≤ clsAt xb ks i) && (bs.getD (clsAt xb ks i).toNat false != bs.getD i false)
/-- What Prove returns: sets, firsts, marks, the error. -/
def pv (xs : List Int) (xb : List Bool) (ks : List (List UInt8)) (bs : List Bool) : List Int × List Int × List Bool × Int :=
  if fitsB xs.length xb bs = true then
    if ks.length = xs.length then
      if ((List.range ks.length).any fun i => dif xb ks bs i) = true then ([], [], [], 16) else (gl xs xb bs, cls xb ks, bs, 0)
    else ([], [], [], 1)
  else ([], [], [], 1)
theorem pv_1 {xs : List Int} {xb : List Bool} {ks : List (List UInt8)} {bs : List Bool} (h : fitsB xs.length xb bs = false) : pv xs xb ks bs = ([], [], [], 1) := by unfold pv; rw [if_neg (by rw [h]; decide)]
theorem pv_2 {xs : List Int} {xb : List Bool} {ks : List (List UInt8)} {bs : List Bool} (h : fitsB xs.length xb bs = true) (h2 : ¬ (ks.length : Int) = xs.length) : pv xs xb ks bs = ([], [], [], 1) := by unfold pv; rw [if_pos h, if_neg (fun e => h2 (by rw [e]))]
theorem pv_3 {xs : List Int} {xb : List Bool} {ks : List (List UInt8)} {bs : List Bool} (h : fitsB xs.length xb bs = true) (h2 : (ks.length : Int) = xs.length) {i : Nat} (hi : i < ks.length) (h3 : dif xb ks bs i = true) : pv xs xb ks bs = ([], [], [], 16) := by
  unfold pv
  rw [if_pos h, if_pos (by omega), if_pos (List.any_eq_true.2 ⟨i, List.mem_range.2 hi, h3⟩)]
theorem pv_4 {xs : List Int} {xb : List Bool} {ks : List (List UInt8)} {bs : List Bool} (h : fitsB xs.length xb bs = true) (h2 : (ks.length : Int) = xs.length) (h3 : ∀ i, i < ks.length → dif xb ks bs i = false) : pv xs xb ks bs = (gl xs xb bs, cls xb ks, bs, 0) := by
  unfold pv
  rw [if_pos h, if_pos (by omega), if_neg]
  rw [List.any_eq_true]
  rintro ⟨i, hi, h4⟩
  rw [h3 i (List.mem_range.1 hi)] at h4
  cases h4
theorem cls_get {xb : List Bool} {ks : List (List UInt8)} {i : Nat} (h : i < ks.length) : (cls xb ks).getD i 0 = clsAt xb ks i := pm_get h
theorem cls_len (xb : List Bool) (ks : List (List UInt8)) : (cls xb ks).length = ks.length := pm_len _ _ _
end Go.Fw.Gu
namespace Go.Fw.Gu
theorem dif_t {xb : List Bool} {ks : List (List UInt8)} {bs : List Bool} {i : Nat} (hi : i < ks.length) (h : 0 ≤ (cls xb ks).getD i 0 ∧ (bs.getD ((cls xb ks).getD i 0).toNat false == bs.getD i false) = false) : dif xb ks bs i = true := by
  rw [cls_get hi] at h
  unfold dif
  rw [decide_eq_true h.1, Bool.true_and, bne, h.2]
  rfl
theorem dif_f {xb : List Bool} {ks : List (List UInt8)} {bs : List Bool} {i : Nat} (hi : i < ks.length) (h : ¬ 0 ≤ (cls xb ks).getD i 0 ∨ (bs.getD ((cls xb ks).getD i 0).toNat false == bs.getD i false) = true) : dif xb ks bs i = false := by
  rw [cls_get hi] at h
  unfold dif
  rcases h with h | h
  · rw [decide_eq_false h]; rfl
  · rw [bne, h]; simp
end Go.Fw.Gu
end

section
/-! marks of classes, what is known, what Check says -/
namespace Go.Fw.Gu
def mkq (bits : Int) (b : UInt8) : Bool := !decide ((bits / 2 ^ (min ((ofq (b.toNat : Int)).toNat : Int).toNat 64)).tmod 2 = 0)
def mrkAt (xb : List Bool) (ks : List (List UInt8)) (bits : Int) (j : Nat) : Bool := xb.getD j false && mkq bits ((ks.getD j []).getD 0 0)
def mrk (xb : List Bool) (ks : List (List UInt8)) (bits : Int) : Nat → List Bool
  | 0 => []
  | k + 1 => mrk xb ks bits k ++ [mrkAt xb ks bits k]
theorem mrk_len (xb : List Bool) (ks : List (List UInt8)) (bits : Int) : ∀ k, (mrk xb ks bits k).length = k
  | 0 => rfl
  | k + 1 => by rw [mrk, List.length_append, mrk_len xb ks bits k]; rfl
theorem mrk_get (xb : List Bool) (ks : List (List UInt8)) (bits : Int) : ∀ k j, j < k → (mrk xb ks bits k).getD j false = mrkAt xb ks bits j
  | 0, j, h => by omega
  | k + 1, j, h => by
    have hl := mrk_len xb ks bits k
    rw [mrk, List.getD_eq_getElem?_getD]
    by_cases hj : j < k
    · rw [List.getElem?_append_left (by omega), ← List.getD_eq_getElem?_getD, mrk_get xb ks bits k j hj]
    · obtain rfl : j = k := by omega
      rw [List.getElem?_append_right (by omega), hl, Nat.sub_self]
      rfl
def knAt (F : List Int) (B : List Bool) (j : Nat) : Int := if F.getD j 0 = (j : Int) then (if B.getD j false then 2 else 1) else 0
def kn (F : List Int) (B : List Bool) : List Int := pm (knAt F B) F.length F.length
theorem knAt_2 {F : List Int} {B : List Bool} {i : Int} (hi : 0 ≤ i) (h : F.getD i.toNat 0 = i ∧ B.getD i.toNat false = true) : knAt F B i.toNat = 2 := by unfold knAt; rw [if_pos (by rw [h.1]; omega), if_pos h.2]
theorem knAt_1 {F : List Int} {B : List Bool} {i : Int} (hi : 0 ≤ i) (h : F.getD i.toNat 0 = i ∧ B.getD i.toNat false = false) : knAt F B i.toNat = 1 := by unfold knAt; rw [if_pos (by rw [h.1]; omega), if_neg (by rw [h.2]; decide)]
theorem knAt_0 {F : List Int} {B : List Bool} {i : Int} (hi : 0 ≤ i) (h1 : ¬ F.getD i.toNat 0 = i ∨ B.getD i.toNat false = false) (h2 : ¬ F.getD i.toNat 0 = i ∨ B.getD i.toNat false = true) : knAt F B i.toNat = 0 := by
  unfold knAt
  by_cases h : F.getD i.toNat 0 = i
  · rcases h1 with h1 | h1
    · exact absurd h h1
    · rcases h2 with h2 | h2
      · exact absurd h h2
      · rw [h1] at h2; cases h2
  · rw [if_neg (by rw [Int.toNat_of_nonneg hi]; exact h)]
theorem knAt_rng (F : List Int) (B : List Bool) (j : Nat) : 0 ≤ knAt F B j ∧ knAt F B j ≤ 2 := by
  unfold knAt
  split
  · split <;> omega
  · omega
theorem kn_rng {F : List Int} {B : List Bool} : ∀ x ∈ kn F B, 0 ≤ x ∧ x ≤ 2 := fun x hx => by
  unfold kn pm at hx
  obtain ⟨j, hj, rfl⟩ := List.mem_map.1 hx
  have := knAt_rng F B j
  split <;> omega
def ckm (k : Int) : Bool := decide (k < 0) || decide (2 < k)
def ckd (xb : List Bool) (ks : List (List UInt8)) (K : List Int) (B : List Bool) (i : Nat) : Bool := decide (0 ≤ clsAt xb ks i) && (decide (K.getD (clsAt xb ks i).toNat 0 = 0) || !(decide (K.getD (clsAt xb ks i).toNat 0 = 2) == B.getD i false))
/-- What Check returns. -/
def chk (xs : List Int) (xb : List Bool) (ks : List (List UInt8)) (K S F : List Int) (B : List Bool) : Int :=
  if (xb.length = xs.length ∧ ks.length = xs.length ∧ K.length = xs.length) ∧ K.any ckm = false then
    if (ge xs xb B = 0 ∧ gl xs xb B = S) ∧ cls xb ks = F then
      if ((List.range ks.length).any fun i => ckd xb ks K B i) = true then 17 else 0
    else 17
  else 1
section
variable {xs : List Int} {xb : List Bool} {ks : List (List UInt8)} {K S F : List Int} {B : List Bool}
theorem chk_1 (h : ¬ ((xb.length = xs.length ∧ ks.length = xs.length ∧ K.length = xs.length) ∧ K.any ckm = false)) : chk xs xb ks K S F B = 1 := by unfold chk; rw [if_neg h]
theorem chk_2 (h : (xb.length = xs.length ∧ ks.length = xs.length ∧ K.length = xs.length) ∧ K.any ckm = false) (h2 : ¬ ((ge xs xb B = 0 ∧ gl xs xb B = S) ∧ cls xb ks = F)) : chk xs xb ks K S F B = 17 := by unfold chk; rw [if_pos h, if_neg h2]
theorem chk_3 (h : (xb.length = xs.length ∧ ks.length = xs.length ∧ K.length = xs.length) ∧ K.any ckm = false) (h2 : (ge xs xb B = 0 ∧ gl xs xb B = S) ∧ cls xb ks = F) {i : Nat} (hi : i < ks.length) (h3 : ckd xb ks K B i = true) : chk xs xb ks K S F B = 17 := by
  unfold chk
  rw [if_pos h, if_pos h2, if_pos (List.any_eq_true.2 ⟨i, List.mem_range.2 hi, h3⟩)]
theorem chk_4 (h : (xb.length = xs.length ∧ ks.length = xs.length ∧ K.length = xs.length) ∧ K.any ckm = false) (h2 : (ge xs xb B = 0 ∧ gl xs xb B = S) ∧ cls xb ks = F) (h3 : ∀ i, i < ks.length → ckd xb ks K B i = false) : chk xs xb ks K S F B = 0 := by
  unfold chk
  rw [if_pos h, if_pos h2, if_neg]
  rw [List.any_eq_true]
  rintro ⟨i, hi, h4⟩
  rw [h3 i (List.mem_range.1 hi)] at h4
  cases h4
end
end Go.Fw.Gu
namespace Go.Fw.Gu
theorem ckd_t {xb : List Bool} {ks : List (List UInt8)} {K : List Int} {B : List Bool} {i : Nat} (hi : i < ks.length) (h : 0 ≤ (cls xb ks).getD i 0 ∧ (K.getD ((cls xb ks).getD i 0).toNat 0 = 0 ∨ (decide (K.getD ((cls xb ks).getD i 0).toNat 0 = 2) == B.getD i false) = false)) : ckd xb ks K B i = true := by
  rw [cls_get hi] at h
  unfold ckd
  rw [decide_eq_true h.1, Bool.true_and, Bool.or_eq_true]
  rcases h.2 with h | h
  · exact .inl (decide_eq_true h)
  · right; rw [h]; rfl
theorem ckd_f {xb : List Bool} {ks : List (List UInt8)} {K : List Int} {B : List Bool} {i : Nat} (hi : i < ks.length) (h : ¬ 0 ≤ (cls xb ks).getD i 0 ∨ (¬ K.getD ((cls xb ks).getD i 0).toNat 0 = 0 ∧ (decide (K.getD ((cls xb ks).getD i 0).toNat 0 = 2) == B.getD i false) = true)) : ckd xb ks K B i = false := by
  rw [cls_get hi] at h
  unfold ckd
  rcases h with h | ⟨h1, h2⟩
  · rw [decide_eq_false h]; rfl
  · rw [decide_eq_false h1, h2]; simp
end Go.Fw.Gu
end

section
/-! a proof with something changed -/
namespace Go.Fw.Gu
def bK (B : List Bool) (b : Int) : Int := arnd b (max (B.length : Int) 1)
def bS (S : List Int) (h b : Int) : List Int := if arnd h 6 = 2 then S.tail else if arnd h 6 = 3 then S ++ [arnd b 32] else S
def bF (F : List Int) (B : List Bool) (h b : Int) : List Int :=
  if arnd h 6 = 1 then (if bK B b < F.length then F.set (bK B b).toNat (arnd b ((F.length : Int) + 2) - 1) else F)
  else if arnd h 6 = 5 then F ++ [b] else F
def bB (B : List Bool) (h b : Int) : List Bool :=
  if arnd h 6 = 0 then (if bK B b < B.length then B.set (bK B b).toNat (!B.getD (bK B b).toNat false) else B)
  else if arnd h 6 = 4 then B ++ [decide (b.tmod 2 = 0)] else B
section
variable {S F : List Int} {B : List Bool} {h b : Int}
theorem bS_o (h1 : ¬ arnd h 6 = 2) (h2 : ¬ arnd h 6 = 3) : bS S h b = S := by unfold bS; rw [if_neg h1, if_neg h2]
theorem bS_2 (h1 : arnd h 6 = 2) : bS S h b = S.tail := by unfold bS; rw [if_pos h1]
theorem bS_3 (h1 : arnd h 6 = 3) : bS S h b = S ++ [arnd b 32] := by unfold bS; rw [if_neg (by omega), if_pos h1]
theorem bF_o (h1 : ¬ arnd h 6 = 1) (h2 : ¬ arnd h 6 = 5) : bF F B h b = F := by unfold bF; rw [if_neg h1, if_neg h2]
theorem bF_1 (h1 : arnd h 6 = 1) (h2 : bK B b < F.length) : bF F B h b = F.set (bK B b).toNat (arnd b ((F.length : Int) + 2) - 1) := by unfold bF; rw [if_pos h1, if_pos h2]
theorem bF_1' (h1 : arnd h 6 = 1) (h2 : ¬ bK B b < F.length) : bF F B h b = F := by unfold bF; rw [if_pos h1, if_neg h2]
theorem bF_5 (h1 : arnd h 6 = 5) : bF F B h b = F ++ [b] := by unfold bF; rw [if_neg (by omega), if_pos h1]
theorem bB_o (h1 : ¬ arnd h 6 = 0) (h2 : ¬ arnd h 6 = 4) : bB B h b = B := by unfold bB; rw [if_neg h1, if_neg h2]
theorem bB_0 (h1 : arnd h 6 = 0) (h2 : bK B b < B.length) : bB B h b = B.set (bK B b).toNat (!B.getD (bK B b).toNat false) := by unfold bB; rw [if_pos h1, if_pos h2]
theorem bB_0' (h1 : arnd h 6 = 0) (h2 : ¬ bK B b < B.length) : bB B h b = B := by unfold bB; rw [if_pos h1, if_neg h2]
theorem bB_4 (h1 : arnd h 6 = 4) : bB B h b = B ++ [decide (b.tmod 2 = 0)] := by unfold bB; rw [if_neg (by omega), if_pos h1]
end
theorem rg_set {F : List Int} {a c : Int} (hF : ∀ x ∈ F, a ≤ x ∧ x ≤ c) {k : Nat} {v : Int} (hv : a ≤ v ∧ v ≤ c) : ∀ x ∈ F.set k v, a ≤ x ∧ x ≤ c := fun x hx => by
  rcases List.mem_or_eq_of_mem_set hx with h | rfl
  · exact hF x h
  · exact hv
theorem rg_app {F : List Int} {a c : Int} (hF : ∀ x ∈ F, a ≤ x ∧ x ≤ c) {v : Int} (hv : a ≤ v ∧ v ≤ c) : ∀ x ∈ F ++ [v], a ≤ x ∧ x ≤ c := fun x hx => by
  rcases List.mem_append.1 hx with h | h
  · exact hF x h
  · rw [List.mem_singleton.1 h]; exact hv
end Go.Fw.Gu
end

section
/-! what Check says of a proof with something changed -/
namespace Go.Fw.Gu
theorem mrk_fit (xs : List Int) (xb : List Bool) (ks : List (List UInt8)) (bits : Int) (h : xb.length = xs.length) : fitsB xs.length xb (mrk xb ks bits xs.length) = true := fits_ok (by rw [mrk_len]) (by rw [h]) fun j hj => by
  rw [mrk_len] at hj
  rw [mrk_get xb ks bits _ j hj]
  unfold mrkAt
  cases xb.getD j false <;> simp
theorem fstB_self {xb : List Bool} {ks : List (List UInt8)} {key : List UInt8} : ∀ {i j : Nat}, fstB xb ks i key = some j → fstB xb ks (j + 1) key = some j
  | 0, j, h => by simp [fstB] at h
  | i + 1, j, h => by
    have h0 := h
    rw [fstB_succ] at h
    cases h1 : fstB xb ks i key with
    | some k =>
      rw [h1] at h
      simp only [Option.some_or, Option.some.injEq] at h
      subst h
      exact fstB_self h1
    | none =>
      rw [h1, Option.none_or] at h
      split at h
      · cases h; exact h0
      · cases h
theorem clsAt_pos {xb : List Bool} {ks : List (List UInt8)} {k : Nat} (hb : xb.getD k false = true) : 0 ≤ clsAt xb ks k := by
  unfold clsAt
  rw [if_pos hb, fstB_succ, hb, decide_eq_true rfl]
  cases fstB xb ks k (ks.getD k []) <;> simp
theorem clsAt_ge {xb : List Bool} {ks : List (List UInt8)} {i : Nat} (h : 0 ≤ clsAt xb ks i) : ∃ j : Nat, clsAt xb ks i = j ∧ j ≤ i ∧ xb.getD i false = true ∧ xb.getD j false = true ∧ ks.getD j [] = ks.getD i [] ∧ clsAt xb ks j = j := by
  have h0 := h
  unfold clsAt at h
  split at h
  · rename_i hb
    cases hf : fstB xb ks (i + 1) (ks.getD i []) with
    | none => rw [hf] at h; simp at h
    | some j =>
      obtain ⟨h1, h2, h3⟩ := fstB_lt hf
      refine ⟨j, ?_, by omega, hb, h2, h3, ?_⟩
      · unfold clsAt; rw [if_pos hb, hf]; rfl
      · unfold clsAt; rw [if_pos h2, h3, fstB_self hf]; rfl
  · omega
theorem dif_mrk (xb : List Bool) (ks : List (List UInt8)) (bits : Int) {n i : Nat} (hi : i < n) : dif xb ks (mrk xb ks bits n) i = false := by
  unfold dif
  by_cases h : 0 ≤ clsAt xb ks i
  · obtain ⟨j, he, hji, hbi, hbj, hk, _⟩ := clsAt_ge h
    rw [he, Int.toNat_natCast, mrk_get xb ks bits n j (by omega), mrk_get xb ks bits n i hi]
    unfold mrkAt
    rw [hbi, hbj, hk]
    simp
  · rw [decide_eq_false h]; rfl
theorem kn_len (F : List Int) (B : List Bool) : (kn F B).length = F.length := pm_len _ _ _
theorem kn_get {F : List Int} {B : List Bool} {j : Nat} (h : j < F.length) : (kn F B).getD j 0 = knAt F B j := pm_get h
theorem kn_ckm (F : List Int) (B : List Bool) : (kn F B).any ckm = false := List.any_eq_false.2 fun x hx => by
  have := kn_rng x hx
  unfold ckm
  simp only [Bool.or_eq_true, decide_eq_true_eq]
  omega
section
variable {xs : List Int} {xb : List Bool} {ks : List (List UInt8)} {M : List Bool}
theorem kn_at {i : Nat} (hi : i < ks.length) (h : 0 ≤ clsAt xb ks i) : (kn (cls xb ks) M).getD (clsAt xb ks i).toNat 0 = if M.getD (clsAt xb ks i).toNat false then 2 else 1 := by
  obtain ⟨j, he, hji, hbi, hbj, hk, hs⟩ := clsAt_ge h
  rw [he, Int.toNat_natCast, kn_get (by rw [cls_len]; omega)]
  unfold knAt
  rw [cls_get (by omega), hs, if_pos rfl]
theorem dif_eq {i : Nat} (h : 0 ≤ clsAt xb ks i) (hd : dif xb ks M i = false) : M.getD (clsAt xb ks i).toNat false = M.getD i false := by
  unfold dif at hd
  rw [decide_eq_true h, Bool.true_and] at hd
  simpa using hd
theorem chk_ok (hfit : fitsB xs.length xb M = true) (hq2 : ks.length = xs.length) (hd : ∀ i, i < ks.length → dif xb ks M i = false) : chk xs xb ks (kn (cls xb ks) M) (gl xs xb M) (cls xb ks) M = 0 := by
  refine chk_4 ⟨⟨(fits_use hfit).2.1, hq2, by rw [kn_len, cls_len, hq2]⟩, kn_ckm _ _⟩ ⟨⟨by unfold ge; rw [if_pos hfit], rfl⟩, rfl⟩ fun i hi => ?_
  unfold ckd
  by_cases h : 0 ≤ clsAt xb ks i
  · rw [kn_at hi h, dif_eq h (hd i hi)]
    cases M.getD i false <;> simp
  · rw [decide_eq_false h]; rfl
theorem chk_flip (hfit : fitsB xs.length xb M = true) (hq2 : ks.length = xs.length) (hd : ∀ i, i < ks.length → dif xb ks M i = false) {k : Nat} (hk : k < xs.length) : chk xs xb ks (kn (cls xb ks) M) (gl xs xb M) (cls xb ks) (M.set k (!M.getD k false)) = 17 := by
  have hfu := fits_use hfit
  have hc : (xb.length = xs.length ∧ ks.length = xs.length ∧ (kn (cls xb ks) M).length = xs.length) ∧ (kn (cls xb ks) M).any ckm = false := ⟨⟨hfu.2.1, hq2, by rw [kn_len, cls_len, hq2]⟩, kn_ckm _ _⟩
  have hg : (M.set k (!M.getD k false)).getD k false = !M.getD k false := by
    rw [List.getD_eq_getElem?_getD, List.getElem?_set_self (by omega)]; rfl
  by_cases hx : (ge xs xb (M.set k (!M.getD k false)) = 0 ∧ gl xs xb (M.set k (!M.getD k false)) = gl xs xb M) ∧ cls xb ks = cls xb ks
  · have hb : xb.getD k false = true := by
      have h1 := (fits_use (ge_eq hx.1.1)).2.2 k (by rw [List.length_set]; omega)
      have h2 := hfu.2.2 k (by omega)
      rw [hg] at h1
      cases hb : xb.getD k false
      · rw [hb] at h1 h2
        cases hm : M.getD k false <;> rw [hm] at h1 h2 <;> simp at h1 h2
      · rfl
    have hp := clsAt_pos (ks := ks) hb
    refine chk_3 hc hx (i := k) (by omega) ?_
    unfold ckd
    rw [kn_at (by omega) hp, dif_eq hp (hd k (by omega)), hg, decide_eq_true hp]
    cases M.getD k false <;> simp
  · exact chk_2 hc hx
theorem chk_unk (hfit : fitsB xs.length xb M = true) (hq2 : ks.length = xs.length) (hd : ∀ i, i < ks.length → dif xb ks M i = false) {k : Nat} (hk : k < xs.length) : chk xs xb ks ((kn (cls xb ks) M).set k 0) (gl xs xb M) (cls xb ks) M = if 0 < (kn (cls xb ks) M).getD k 0 then 17 else 0 := by
  have hfu := fits_use hfit
  have hcl : (cls xb ks).length = xs.length := by rw [cls_len, hq2]
  have hkl : (kn (cls xb ks) M).length = xs.length := by rw [kn_len, hcl]
  split
  · rename_i hp
    rw [kn_get (by omega)] at hp
    have hck : clsAt xb ks k = k := by
      rw [← cls_get (by omega)]
      unfold knAt at hp
      split at hp
      · assumption
      · omega
    refine chk_3 (i := k) ⟨⟨hfu.2.1, hq2, by rw [List.length_set, hkl]⟩, List.any_eq_false.2 fun x hx => ?_⟩ ⟨⟨by unfold ge; rw [if_pos hfit], rfl⟩, rfl⟩ (by omega) ?_
    · rcases List.mem_or_eq_of_mem_set hx with h | rfl
      · have := kn_rng x h
        unfold ckm
        simp only [Bool.or_eq_true, decide_eq_true_eq]
        omega
      · decide
    · unfold ckd
      rw [hck, Int.toNat_natCast, List.getD_eq_getElem?_getD, List.getElem?_set_self (by omega)]
      simp
  · rename_i hp
    have h0 : (kn (cls xb ks) M).getD k 0 = 0 := by
      have h1 := kn_rng (F := cls xb ks) (B := M) ((kn (cls xb ks) M).getD k 0) (by rw [List.getD_eq_getElem?_getD, List.getElem?_eq_getElem (by omega)]; exact List.getElem_mem _)
      omega
    have he : (kn (cls xb ks) M).set k 0 = kn (cls xb ks) M := by
      apply List.ext_getElem (by simp)
      intro j h1 h2
      rw [List.getElem_set]
      split
      · rename_i hj
        subst hj
        rw [List.getD_eq_getElem?_getD, List.getElem?_eq_getElem h2] at h0
        exact h0.symm
      · rfl
    rw [he]
    exact chk_ok hfit hq2 hd
theorem chk_sets (hfit : fitsB xs.length xb M = true) (hq2 : ks.length = xs.length) {S : List Int} (hS : ¬ gl xs xb M = S) : chk xs xb ks (kn (cls xb ks) M) S (cls xb ks) M = 17 :=
  chk_2 ⟨⟨(fits_use hfit).2.1, hq2, by rw [kn_len, cls_len, hq2]⟩, kn_ckm _ _⟩ (fun h => hS h.1.2)
end
theorem tail_ne {l : List Int} (h : 0 < l.length) : ¬ l = l.tail := fun e => by
  have := congrArg List.length e
  rw [List.length_tail] at this
  omega
theorem app_ne {l : List Int} {x : Int} : ¬ l = l ++ [x] := fun e => by
  have := congrArg List.length e
  rw [List.length_append] at this
  simp at this
theorem arnd_self {k m : Int} (h0 : 0 ≤ k) (h1 : k < m) : arnd k m = k := by
  unfold arnd
  rw [if_neg (by omega)]
  exact Int.emod_eq_of_lt h0 h1
theorem bent_flip {B : List Bool} {k : Int} (h0 : 0 ≤ k) (h1 : k < B.length) : bB B 0 k = B.set k.toNat (!B.getD k.toNat false) := by
  have e : bK B k = k := arnd_self h0 (by omega)
  rw [bB_0 (by decide) (by rw [e]; exact h1), e]
end Go.Fw.Gu
end
