/- A text of a proof over this seat: walks over the program's functions and the plain laws that they need. -/
import Derived.Test.YtefjpigmgmbghaaGuA
import Derived.Test.YtefjpigmgmbghaaFwC
import Derived.Test.YtefjpigmgmbghaaFwD
set_option linter.all false
section
/- Plain laws of the package hunt. -/
namespace Go.Fw.Hu
open Gu

/-! ### sets that are all different -/
def nod (xs : List Int) : Bool := (List.range xs.length).all fun i => !decide (xs.getD i 0 ∈ xs.take i)
def dct (xs : List Int) (i : Nat) : Nat := ((List.range i).filter fun j => !decide (xs.getD j 0 ∈ xs.take j)).length
theorem dct_succ (xs : List Int) (i : Nat) : dct xs (i + 1) = dct xs i + (if xs.getD i 0 ∈ xs.take i then 0 else 1) := by
  unfold dct
  rw [List.range_succ, List.filter_append, List.length_append]
  congr 1
  by_cases h : xs.getD i 0 ∈ xs.take i <;> simp only [h, decide_true, decide_false, Bool.not_true, Bool.not_false, List.filter_cons, if_true, if_false] <;> rfl
theorem dct_le (xs : List Int) (i : Nat) : dct xs i ≤ i := by
  unfold dct
  have := List.length_filter_le (fun j => !decide (xs.getD j 0 ∈ xs.take j)) (List.range i)
  rwa [List.length_range] at this
theorem dct_all (xs : List Int) : ∀ i, decide (dct xs i = i) = (List.range i).all fun i => !decide (xs.getD i 0 ∈ xs.take i)
  | 0 => rfl
  | i + 1 => by
    have ih := dct_all xs i
    have hle := dct_le xs i
    rw [List.range_succ, List.all_append, ← ih, dct_succ]
    by_cases h : xs.getD i 0 ∈ xs.take i
    · rw [if_pos h, decide_eq_false (by omega)]
      simp only [List.all_cons, h, decide_true, Bool.not_true, Bool.false_and, Bool.and_false]
    · rw [if_neg h]
      simp only [List.all_cons, h, decide_false, Bool.not_false, List.all_nil, Bool.and_true]
      rw [decide_eq_decide]
      omega
theorem nod_dct (xs : List Int) : decide (dct xs xs.length = xs.length) = nod xs := dct_all xs _
def ordB (xs : List Int) (xb : List Bool) : Bool := nod xs && decide (xb.length = xs.length)
theorem aset_mem {α : Type} [DecidableEq α] (a y : α) (v : Value) : ∀ l : List (α × Value), y ∈ (aset a v l).map (·.1) ↔ y = a ∨ y ∈ l.map (·.1)
  | [] => by simp [aset]
  | p :: l => by
    rw [aset]
    split
    · rename_i h
      simp only [List.map_cons, List.mem_cons, h]
      constructor
      · rintro (h | h); exact .inl h; exact .inr (.inr h)
      · rintro (h | h | h); exact .inl h; exact .inl h; exact .inr h
    · simp only [List.map_cons, List.mem_cons, aset_mem a y v l]
      constructor
      · rintro (h | h | h); exact .inr (.inl h); exact .inl h; exact .inr (.inr h)
      · rintro (h | h | h); exact .inr (.inl h); exact .inl h; exact .inr (.inr h)
theorem aset_len {α : Type} [DecidableEq α] (a : α) (v : Value) : ∀ l : List (α × Value), (aset a v l).length = l.length + (if a ∈ l.map (·.1) then 0 else 1)
  | [] => by simp [aset]
  | p :: l => by
    rw [aset]
    split
    · rename_i h; simp [h]
    · rename_i h
      rw [List.length_cons, aset_len a v l, List.length_cons, List.map_cons]
      have : (a ∈ p.1 :: l.map (·.1)) ↔ a ∈ l.map (·.1) := by
        rw [List.mem_cons]
        exact ⟨fun h' => h'.resolve_left h, .inr⟩
      simp only [this]
      omega
def MetM (xs : List Int) (i : Nat) (ml : List (Int × Value)) : Prop := ml.length = dct xs i ∧ ∀ y, y ∈ ml.map (·.1) ↔ y ∈ xs.take i
theorem MetM.start (xs : List Int) : MetM xs 0 [] := ⟨rfl, fun y => by simp⟩
theorem MetM.step {xs : List Int} {i : Int} {ml : List (Int × Value)} (h : MetM xs i.toNat ml) (hi : 0 ≤ i ∧ i < xs.length) : MetM xs (i + 1).toNat (aset (xs.getD i.toNat 0) (.bool true) ml) := by
  rw [show (i + 1).toNat = i.toNat + 1 by omega]
  refine ⟨?_, fun y => ?_⟩
  · rw [aset_len, h.1, dct_succ]
    simp only [h.2]
  · rw [aset_mem, h.2, take_snoc' (by omega), List.mem_append, List.mem_singleton]
    exact Or.comm
theorem MetM.len {xs : List Int} {ml : List (Int × Value)} (h : MetM xs xs.length ml) : decide ((ml.length : Int) = (xs.length : Int)) = nod xs := by
  rw [← nod_dct, h.1, decide_eq_decide]
  omega
theorem nod_no {xs : List Int} {i k : Nat} (hi : i < xs.length) (hk : k < i) (h : xs.getD i 0 = xs.getD k 0) : nod xs = false := by
  refine Bool.eq_false_iff.2 fun hn => ?_
  have := List.all_eq_true.1 hn i (List.mem_range.2 hi)
  simp only [Bool.not_eq_true', decide_eq_false_iff_not] at this
  apply this
  rw [h, List.getD_eq_getElem?_getD, List.getElem?_eq_getElem (by omega)]
  exact List.mem_take_iff_getElem.2 ⟨k, by omega, rfl⟩
theorem nod_ok {xs : List Int} (h : ∀ i, i < xs.length → ∀ k, k < i → xs.getD i 0 ≠ xs.getD k 0) : nod xs = true := by
  refine List.all_eq_true.2 fun i hi => ?_
  rw [List.mem_range] at hi
  simp only [Bool.not_eq_true', decide_eq_false_iff_not]
  intro hm
  obtain ⟨k, hk, e⟩ := List.mem_take_iff_getElem.1 hm
  refine h i hi k (by omega) ?_
  rw [← e]
  simp only [List.getD_eq_getElem?_getD]
  rw [List.getElem?_eq_getElem (show k < xs.length by omega)]
  rfl

/-! ### what is known fits -/
def rgM (m : Int) (b : Bool) : Bool := (decide (0 ≤ m) && decide (m ≤ 2)) && (b || decide (m = 0))
def sameI (xb : List Bool) (ks : List (List UInt8)) (ms : List Int) (i j : Nat) : Bool := !((xb.getD i false && xb.getD j false) && decide (ks.getD i [] = ks.getD j [])) || decide (ms.getD i 0 = ms.getD j 0)
def fitI (xb : List Bool) (ks : List (List UInt8)) (ms : List Int) (i : Nat) : Bool := rgM (ms.getD i 0) (xb.getD i false) && (List.range i).all fun j => sameI xb ks ms i j
def lenB (xs : List Int) (xb : List Bool) (ks : List (List UInt8)) (ms : List Int) : Bool := (ordB xs xb && decide (ks.length = xs.length)) && decide (ms.length = xs.length)
def fitB (xs : List Int) (xb : List Bool) (ks : List (List UInt8)) (ms : List Int) : Bool := lenB xs xb ks ms && (List.range xs.length).all fun i => fitI xb ks ms i
section
variable {xs : List Int} {xb : List Bool} {ks : List (List UInt8)} {ms : List Int}
theorem fit_len (h : lenB xs xb ks ms = false) : fitB xs xb ks ms = false := by unfold fitB; rw [h]; rfl
theorem fit_at {i : Nat} (hi : i < xs.length) (h : fitI xb ks ms i = false) : fitB xs xb ks ms = false := by
  unfold fitB
  have : ((List.range xs.length).all fun i => fitI xb ks ms i) = false := by
    refine Bool.eq_false_iff.2 fun hn => ?_
    have := List.all_eq_true.1 hn i (List.mem_range.2 hi)
    rw [h] at this
    cases this
  rw [this, Bool.and_false]
theorem fit_rg {i : Nat} (hi : i < xs.length) (h : (decide (ms.getD i 0 < 0) || decide (2 < ms.getD i 0)) = true ∨ (!xb.getD i false && !decide (ms.getD i 0 = 0)) = true) : fitB xs xb ks ms = false := by
  refine fit_at hi ?_
  have : rgM (ms.getD i 0) (xb.getD i false) = false := by
    unfold rgM
    rcases h with h | h
    · simp only [Bool.or_eq_true, decide_eq_true_eq] at h
      rcases h with h | h
      · rw [decide_eq_false (show ¬ 0 ≤ ms.getD i 0 by omega)]; rfl
      · rw [decide_eq_false (show ¬ ms.getD i 0 ≤ 2 by omega)]; simp
    · simp only [Bool.and_eq_true, Bool.not_eq_true', decide_eq_false_iff_not] at h
      rw [h.1, decide_eq_false h.2]; simp
  unfold fitI
  rw [this]; rfl
theorem fit_same {i j : Nat} (hi : i < xs.length) (hj : j < i) (h1 : xb.getD i false = true) (h2 : xb.getD j false = true) (h3 : ks.getD i [] = ks.getD j []) (h4 : ¬ ms.getD i 0 = ms.getD j 0) : fitB xs xb ks ms = false := by
  refine fit_at hi ?_
  unfold fitI
  have : ((List.range i).all fun j => sameI xb ks ms i j) = false := by
    refine Bool.eq_false_iff.2 fun hn => ?_
    have := List.all_eq_true.1 hn j (List.mem_range.2 hj)
    unfold sameI at this
    rw [h1, h2, decide_eq_true h3, decide_eq_false h4] at this
    cases this
  rw [this, Bool.and_false]
theorem fit_ok (h1 : lenB xs xb ks ms = true) (h2 : ∀ i, i < xs.length → fitI xb ks ms i = true) : fitB xs xb ks ms = true := by
  unfold fitB
  rw [h1, Bool.true_and]
  exact List.all_eq_true.2 fun i hi => h2 i (List.mem_range.1 hi)
theorem fitI_of {i : Nat} (h1 : rgM (ms.getD i 0) (xb.getD i false) = true) (h2 : ∀ j, j < i → sameI xb ks ms i j = true) : fitI xb ks ms i = true := by
  unfold fitI
  rw [h1, Bool.true_and]
  exact List.all_eq_true.2 fun j hj => h2 j (List.mem_range.1 hj)
theorem fit_use (h : fitB xs xb ks ms = true) : nod xs = true ∧ xb.length = xs.length ∧ ks.length = xs.length ∧ ms.length = xs.length ∧ (∀ i, i < xs.length → rgM (ms.getD i 0) (xb.getD i false) = true) ∧ ∀ i j, i < xs.length → j < i → sameI xb ks ms i j = true := by
  unfold fitB lenB ordB at h
  simp only [Bool.and_eq_true, decide_eq_true_eq, List.all_eq_true, List.mem_range] at h
  obtain ⟨⟨⟨⟨h1, h2⟩, h3⟩, h4⟩, h5⟩ := h
  refine ⟨h1, h2, h3, h4, fun i hi => ?_, fun i j hi hj => ?_⟩
  · have := h5 i hi
    unfold fitI at this
    exact (Bool.and_eq_true_iff.1 this).1
  · have := h5 i hi
    unfold fitI at this
    exact List.all_eq_true.1 (Bool.and_eq_true_iff.1 this).2 j (List.mem_range.2 hj)
def MrkM (xb : List Bool) (ks : List (List UInt8)) (ms : List Int) (i : Nat) (ml : List (List UInt8 × Value)) : Prop :=
  (∀ p ∈ ml, p.1.length = 16) ∧ (∀ j, j < i → xb.getD j false = true → aget ml (ks.getD j []) = some (vi (ms.getD j 0))) ∧ ∀ key v, aget ml key = some v → ∃ j, j < i ∧ xb.getD j false = true ∧ ks.getD j [] = key ∧ v = vi (ms.getD j 0)
theorem MrkM.start : MrkM xb ks ms 0 [] := ⟨fun p h => (by cases h), fun j h => absurd h (by omega), fun key v h => by cases h⟩
theorem MrkM.skip {i : Int} {ml : List (List UInt8 × Value)} (h : MrkM xb ks ms i.toNat ml) (hi : 0 ≤ i) (hb : xb.getD i.toNat false = false) : MrkM xb ks ms (i + 1).toNat ml := by
  rw [show (i + 1).toNat = i.toNat + 1 by omega]
  refine ⟨h.1, fun j hj hb' => ?_, fun key v hv => ?_⟩
  · rcases Nat.lt_or_ge j i.toNat with h' | h'
    · exact h.2.1 j h' hb'
    · obtain rfl : j = i.toNat := by omega
      rw [hb] at hb'; cases hb'
  · obtain ⟨j, h1, h2⟩ := h.2.2 key v hv
    exact ⟨j, by omega, h2⟩
theorem aset_keys {α : Type} [DecidableEq α] {V : α → Prop} {a : α} {v : Value} {l : List (α × Value)} (h : ∀ p ∈ l, V p.1) (ha : V a) : ∀ p ∈ aset a v l, V p.1 := fun p hp => by
  have : p.1 ∈ (aset a v l).map (·.1) := List.mem_map.2 ⟨p, hp, rfl⟩
  rcases (aset_mem a p.1 v l).1 this with e | e
  · rw [e]; exact ha
  · obtain ⟨q, hq, e⟩ := List.mem_map.1 e
    rw [← e]; exact h q hq
theorem MrkM.step {i : Int} {ml : List (List UInt8 × Value)} (h : MrkM xb ks ms i.toNat ml) (hi : 0 ≤ i) (hb : xb.getD i.toNat false = true) (hk : (ks.getD i.toNat []).length = 16) (hs : ∀ j, j < i.toNat → sameI xb ks ms i.toNat j = true) : MrkM xb ks ms (i + 1).toNat (aset (ks.getD i.toNat []) (vi (ms.getD i.toNat 0)) ml) := by
  rw [show (i + 1).toNat = i.toNat + 1 by omega]
  refine ⟨aset_keys (V := fun (l : List UInt8) => l.length = 16) h.1 hk, fun j hj hb' => ?_, fun key v hv => ?_⟩
  · rw [aget_aset]
    rcases Nat.lt_or_ge j i.toNat with h' | h'
    · by_cases he : ks.getD j [] = ks.getD i.toNat []
      · rw [if_pos he]
        have := hs j h'
        unfold sameI at this
        rw [hb, hb', decide_eq_true he.symm] at this
        simp only [Bool.and_self, Bool.not_true, Bool.false_or, decide_eq_true_eq] at this
        rw [this]
      · rw [if_neg he]; exact h.2.1 j h' hb'
    · obtain rfl : j = i.toNat := by omega
      rw [if_pos rfl]
  · rw [aget_aset] at hv
    by_cases he : key = ks.getD i.toNat []
    · rw [if_pos he] at hv
      exact ⟨i.toNat, by omega, hb, he.symm, (Option.some.inj hv).symm⟩
    · rw [if_neg he] at hv
      obtain ⟨j, h1, h2⟩ := h.2.2 key v hv
      exact ⟨j, by omega, h2⟩
/-- What the map tells of a key. -/
theorem MrkM.ask {i : Nat} {ml : List (List UInt8 × Value)} (h : MrkM xb ks ms i ml) (key : List UInt8) : ∃ (ok : Bool) (old : Int), (aget ml key).getD (vi 0) = vi old ∧ (aget ml key).isSome = ok ∧ (ok = true → ∃ j, j < i ∧ xb.getD j false = true ∧ ks.getD j [] = key ∧ old = ms.getD j 0) ∧ (ok = false → ∀ j, j < i → xb.getD j false = true → ks.getD j [] ≠ key) ∧ (ok = true → ∀ j, j < i → xb.getD j false = true → ks.getD j [] = key → old = ms.getD j 0) := by
  cases hg : aget ml key with
  | none =>
    refine ⟨false, 0, rfl, rfl, fun h => (by cases h), fun _ j h1 h2 h3 => ?_, fun h => by cases h⟩
    have := h.2.1 j h1 h2
    rw [h3, hg] at this
    cases this
  | some v =>
    obtain ⟨j, h1, h2, h3, rfl⟩ := h.2.2 key v hg
    refine ⟨true, ms.getD j 0, rfl, rfl, fun _ => ⟨j, h1, h2, h3, rfl⟩, fun h => (by cases h), fun _ t h4 h5 h6 => ?_⟩
    have := h.2.1 t h4 h5
    rw [h6, hg] at this
    exact (Value.int.inj (Option.some.inj this)).2
end
end Go.Fw.Hu
end

section
/- hunt: what is covered, and the sets that are left. -/
namespace Go.Fw.Hu
open Gu
theorem dec_nat (a b : Nat) : decide ((a : Int) = (b : Int)) = decide (a = b) := by rw [decide_eq_decide]; omega
def blw (a b : Int) : Bool := !decide (a = b) && wi a b
def cvj (xs : List Int) (xb : List Bool) (ms : List Int) (x : Int) (j : Nat) : Bool := (xb.getD j false && decide (ms.getD j 0 = 2)) && blw (xs.getD j 0) x
def cov (xs : List Int) (xb : List Bool) (ms : List Int) (i : Nat) : Bool := (List.range xs.length).any (cvj xs xb ms (xs.getD i 0))
def fre (xs : List Int) (xb : List Bool) (ms : List Int) (i : Nat) : Bool := xb.getD i false && !cov xs xb ms i
theorem any_at {p : Nat → Bool} {n i : Nat} (hi : i < n) (h : p i = true) : (List.range n).any p = true := List.any_eq_true.2 ⟨i, List.mem_range.2 hi, h⟩
theorem any_step {p : Nat → Bool} {i : Int} (hi : 0 ≤ i) (h : (List.range i.toNat).any p = false) (hp : p i.toNat = false) : (List.range (i + 1).toNat).any p = false := by
  rw [show (i + 1).toNat = i.toNat + 1 by omega, any_succ, h, hp]; rfl
/-- The sets that are left, in their order. -/
def frl (xs : List Int) (xb : List Bool) (ms : List Int) : List Nat := (List.range xs.length).filter (fre xs xb ms)
def fcn (xs : List Int) (xb : List Bool) (ms : List Int) (i : Nat) : Nat := ((List.range i).filter (fre xs xb ms)).length
section
variable {xs : List Int} {xb : List Bool} {ms : List Int}
theorem fcn_t {i : Nat} (h : fre xs xb ms i = true) : fcn xs xb ms (i + 1) = fcn xs xb ms i + 1 := by
  unfold fcn
  rw [List.range_succ, List.filter_append, List.length_append, List.filter_cons_of_pos h]
  rfl
theorem fcn_f {i : Nat} (h : fre xs xb ms i = false) : fcn xs xb ms (i + 1) = fcn xs xb ms i := by
  unfold fcn
  rw [List.range_succ, List.filter_append, List.length_append, List.filter_cons_of_neg (by rw [h]; decide)]
  rfl
theorem range_pre {i n : Nat} (h : i < n) : ∃ t, List.range n = List.range i ++ i :: t := by
  refine ⟨(List.range n).drop (i + 1), ?_⟩
  have h1 : List.range i = (List.range n).take i := by
    rw [List.take_range, Nat.min_eq_left (by omega)]
  rw [h1]
  have h2 : (List.range n).drop i = i :: (List.range n).drop (i + 1) := by
    rw [List.drop_eq_getElem_cons (by simpa using h)]
    simp
  rw [← h2, List.take_append_drop]
theorem frl_at {i : Nat} (hi : i < xs.length) (h : fre xs xb ms i = true) : fcn xs xb ms i < (frl xs xb ms).length ∧ (frl xs xb ms).getD (fcn xs xb ms i) 0 = i := by
  obtain ⟨t, ht⟩ := range_pre hi
  unfold frl fcn
  rw [ht, List.filter_append, List.filter_cons_of_pos h]
  refine ⟨by simp, ?_⟩
  rw [List.getD_eq_getElem?_getD, List.getElem?_append_right (Nat.le_refl _), Nat.sub_self]
  rfl
theorem fcn_all : fcn xs xb ms xs.length = (frl xs xb ms).length := rfl
theorem frl_get {k : Nat} (h : k < (frl xs xb ms).length) : (frl xs xb ms).getD k 0 < xs.length ∧ fre xs xb ms ((frl xs xb ms).getD k 0) = true := by
  have hm : (frl xs xb ms).getD k 0 ∈ frl xs xb ms := by
    rw [List.getD_eq_getElem?_getD, List.getElem?_eq_getElem h]
    exact List.getElem_mem h
  obtain ⟨h1, h2⟩ := List.mem_filter.1 hm
  exact ⟨List.mem_range.1 h1, h2⟩
theorem frl_mem {i : Nat} : i ∈ frl xs xb ms ↔ i < xs.length ∧ fre xs xb ms i = true := by
  unfold frl
  rw [List.mem_filter, List.mem_range]
end
/-! ### lengths -/
theorem lenB_no {xs : List Int} {xb : List Bool} {ks : List (List UInt8)} {ms : List Int} (h : (ordB xs xb = false ∨ ¬ (ks.length : Int) = xs.length) ∨ ¬ (ms.length : Int) = xs.length) : lenB xs xb ks ms = false := by
  unfold lenB
  rcases h with (h | h) | h
  · rw [h]; rfl
  · rw [decide_eq_false (show ¬ ks.length = xs.length by omega)]; simp
  · rw [decide_eq_false (show ¬ ms.length = xs.length by omega)]; simp
theorem lenB_ok {xs : List Int} {xb : List Bool} {ks : List (List UInt8)} {ms : List Int} (h : (ordB xs xb = true ∧ (ks.length : Int) = xs.length) ∧ (ms.length : Int) = xs.length) : lenB xs xb ks ms = true := by
  unfold lenB
  rw [h.1.1, decide_eq_true (show ks.length = xs.length by omega), decide_eq_true (show ms.length = xs.length by omega)]
  rfl
theorem ordB_len {xs : List Int} {xb : List Bool} (h : ordB xs xb = true) : xb.length = xs.length := of_decide_eq_true (Bool.and_eq_true_iff.1 h).2
end Go.Fw.Hu
end

section
namespace Go.Fw.Hu
open Gu
theorem rg_ok {m : Int} {b : Bool} (h : (¬ m < 0 ∧ ¬ 2 < m) ∧ (b = true ∨ m = 0)) : rgM m b = true := by
  unfold rgM
  rw [decide_eq_true (show 0 ≤ m by omega), decide_eq_true (show m ≤ 2 by omega)]
  rcases h.2 with h | h
  · rw [h]; rfl
  · rw [decide_eq_true h]; simp
theorem same_all {xb : List Bool} {ks : List (List UInt8)} {ms : List Int} {i : Nat} {ok : Bool} {old : Int} (hb : xb.getD i false = true) (h : ok = false ∨ old = ms.getD i 0) (h4 : ok = false → ∀ j, j < i → xb.getD j false = true → ks.getD j [] ≠ ks.getD i []) (h5 : ok = true → ∀ j, j < i → xb.getD j false = true → ks.getD j [] = ks.getD i [] → old = ms.getD j 0) : ∀ j, j < i → sameI xb ks ms i j = true := fun j hj => by
  unfold sameI
  cases hbj : xb.getD j false with
  | false => simp
  | true =>
    by_cases he : ks.getD i [] = ks.getD j []
    · cases hok : ok with
      | false => exact absurd he.symm (h4 hok j hj hbj)
      | true =>
        have h6 := h5 hok j hj hbj he.symm
        rw [hok] at h
        rcases h with h | h
        · cases h
        · rw [← h, ← h6]; simp
    · rw [decide_eq_false he]; simp
theorem cvj_f {xs : List Int} {xb : List Bool} {ms : List Int} {x : Int} {j : Nat} (h : (xb.getD j false = false ∨ ¬ ms.getD j 0 = 2) ∨ blw (xs.getD j 0) x = false) : cvj xs xb ms x j = false := by
  unfold cvj
  rcases h with (h | h) | h
  · rw [h]; rfl
  · rw [decide_eq_false h]; simp
  · rw [h]; simp
theorem cvj_t {xs : List Int} {xb : List Bool} {ms : List Int} {x : Int} {j : Nat} (h : (xb.getD j false = true ∧ ms.getD j 0 = 2) ∧ blw (xs.getD j 0) x = true) : cvj xs xb ms x j = true := by
  unfold cvj
  rw [h.1.1, h.1.2, h.2]; rfl
end Go.Fw.Hu
end

section
/- hunt: the first sets of the classes. -/
namespace Go.Fw.Hu
open Gu
section
variable (xs : List Int) (xb : List Bool) (ks : List (List UInt8)) (ms : List Int) (want : Int → Bool)
def opB (key : List UInt8) : Bool := (frl xs xb ms).any fun i => want (ms.getD i 0) && decide (ks.getD i [] = key)
def erl (i : Nat) (key : List UInt8) : Bool := (List.range i).any fun j => xb.getD j false && decide (ks.getD j [] = key)
def clsL : Nat → List Int
  | 0 => []
  | k + 1 => if (xb.getD k false && opB xs xb ks ms want (ks.getD k [])) && !erl xb ks k (ks.getD k []) then clsL k ++ [xs.getD k 0] else clsL k
def OpM (p : List UInt8 → Bool) (ml : List (List UInt8 × Value)) : Prop := (∀ q ∈ ml, q.1.length = 16) ∧ (ml.map (·.1)).Nodup ∧ (∀ q ∈ ml, q.2 = .bool true) ∧ ∀ key, key ∈ ml.map (·.1) ↔ p key = true
def opK (k : Nat) (key : List UInt8) : Bool := ((frl xs xb ms).take k).any fun i => want (ms.getD i 0) && decide (ks.getD i [] = key)
end
theorem clsL_len (xs : List Int) (xb : List Bool) (ks : List (List UInt8)) (ms : List Int) (want : Int → Bool) : ∀ k, (clsL xs xb ks ms want k).length ≤ k
  | 0 => Nat.le_refl _
  | k + 1 => by
    have := clsL_len xs xb ks ms want k
    unfold clsL
    split
    · simp; omega
    · omega
theorem clsL_mem {xs : List Int} {xb : List Bool} {ks : List (List UInt8)} {ms : List Int} {want : Int → Bool} : ∀ k, k ≤ xs.length → ∀ x ∈ clsL xs xb ks ms want k, x ∈ xs
  | 0, _, x, h => by cases h
  | k + 1, hk, x, h => by
    unfold clsL at h
    split at h
    · rcases List.mem_append.1 h with h | h
      · exact clsL_mem k (by omega) x h
      · rw [List.mem_singleton.1 h]; exact getD_mem' (by omega)
    · exact clsL_mem k (by omega) x h
theorem OpM.ask {p : List UInt8 → Bool} {ml : List (List UInt8 × Value)} (h : OpM p ml) (key : List UInt8) : (aget ml key).getD (.bool false) = .bool (p key) := by
  cases hg : aget ml key with
  | none =>
    have : p key = false := Bool.eq_false_iff.2 fun hp => by
      have := aget_some.2 ((h.2.2.2 key).2 hp)
      rw [hg] at this
      cases this
    rw [this]; rfl
  | some v =>
    have h1 := aget_mem hg
    have h2 : p key = true := (h.2.2.2 key).1 (List.mem_map.2 ⟨_, h1, rfl⟩)
    rw [h2]
    exact h.2.2.1 _ h1
theorem OpM.start {p : List UInt8 → Bool} (hp : ∀ key, p key = false) : OpM p [] := ⟨fun q h => (by cases h), List.nodup_nil, fun q h => (by cases h), fun key => by simp [hp key]⟩
theorem OpM.put {p q : List UInt8 → Bool} {ml : List (List UInt8 × Value)} {a : List UInt8} (h : OpM p ml) (ha : a.length = 16) (hq : ∀ key, q key = (p key || decide (key = a))) : OpM q (aset a (.bool true) ml) := by
  refine ⟨aset_keys (V := fun (l : List UInt8) => l.length = 16) h.1 ha, aset_nodup h.2.1, fun x hx => ?_, fun key => ?_⟩
  · have : ∀ l : List (List UInt8 × Value), (∀ q ∈ l, q.2 = .bool true) → ∀ q ∈ aset a (.bool true) l, q.2 = .bool true := by
      intro l
      induction l with
      | nil => intro _ q hq; simp [aset] at hq; rw [hq]
      | cons y l ih =>
        intro hl q hq
        rw [aset] at hq
        split at hq
        · rcases List.mem_cons.1 hq with rfl | hq
          · rfl
          · exact hl q (List.mem_cons_of_mem _ hq)
        · rcases List.mem_cons.1 hq with rfl | hq
          · exact hl _ List.mem_cons_self
          · exact ih (fun z hz => hl z (List.mem_cons_of_mem _ hz)) q hq
    exact this ml h.2.2.1 x hx
  · rw [aset_mem, h.2.2.2, hq, Bool.or_eq_true, decide_eq_true_eq]
    exact Or.comm
theorem OpM.cut {p q : List UInt8 → Bool} {ml : List (List UInt8 × Value)} {a : List UInt8} (h : OpM p ml) (hq : ∀ key, q key = (p key && !decide (key = a))) : OpM q (adel a ml) := by
  have hk := fun y => (adel_keys (a := a) (y := y) h.2.1).1
  have hsub : ∀ x ∈ adel a ml, x ∈ ml := fun x hx => by
    unfold adel at hx
    split at hx
    · exact List.mem_of_mem_eraseIdx hx
    · exact hx
  refine ⟨fun x hx => h.1 x (hsub x hx), (adel_keys (a := a) (y := a) h.2.1).2, fun x hx => h.2.2.1 x (hsub x hx), fun key => ?_⟩
  rw [hk, h.2.2.2, hq, Bool.and_eq_true, Bool.not_eq_true', decide_eq_false_iff_not]
theorem OpM.of {p q : List UInt8 → Bool} {ml : List (List UInt8 × Value)} (h : OpM p ml) (hq : ∀ key, q key = p key) : OpM q ml := ⟨h.1, h.2.1, h.2.2.1, fun key => by rw [h.2.2.2, hq]⟩
section
variable {xs : List Int} {xb : List Bool} {ks : List (List UInt8)} {ms : List Int} {want : Int → Bool}
theorem take_frl {k : Nat} (h : k < (frl xs xb ms).length) : (frl xs xb ms).take (k + 1) = (frl xs xb ms).take k ++ [(frl xs xb ms).getD k 0] := by
  rw [List.take_succ_eq_append_getElem h, List.getD_eq_getElem?_getD, List.getElem?_eq_getElem h]
  rfl
theorem opK_0 (key : List UInt8) : opK xs xb ks ms want 0 key = false := by unfold opK; rw [List.take_zero]; rfl
theorem opK_t {k : Nat} {i : Int} (h : k < (frl xs xb ms).length) (hi : i = (((frl xs xb ms).getD k 0 : Nat) : Int)) (hw : want (ms.getD i.toNat 0) = true) (key : List UInt8) : opK xs xb ks ms want (k + 1) key = (opK xs xb ks ms want k key || decide (key = ks.getD i.toNat [])) := by
  subst hi
  unfold opK
  rw [take_frl h, List.any_append]
  rw [Int.toNat_natCast] at *
  simp only [List.any_cons, List.any_nil, Bool.or_false, hw, Bool.true_and]
  congr 1
  rw [decide_eq_decide]
  exact eq_comm
theorem opK_f {k : Nat} {i : Int} (h : k < (frl xs xb ms).length) (hi : i = (((frl xs xb ms).getD k 0 : Nat) : Int)) (hw : want (ms.getD i.toNat 0) = false) (key : List UInt8) : opK xs xb ks ms want (k + 1) key = opK xs xb ks ms want k key := by
  subst hi
  unfold opK
  rw [take_frl h, List.any_append]
  rw [Int.toNat_natCast] at *
  simp only [List.any_cons, List.any_nil, Bool.or_false, hw, Bool.false_and]
theorem opK_all (key : List UInt8) : opK xs xb ks ms want (frl xs xb ms).length key = opB xs xb ks ms want key := by unfold opK opB; rw [List.take_length]
theorem erl_succ (i : Nat) (key : List UInt8) : erl xb ks (i + 1) key = (erl xb ks i key || (xb.getD i false && decide (ks.getD i [] = key))) := any_succ _ _
/-- What is open before i. -/
def lft (xs : List Int) (xb : List Bool) (ks : List (List UInt8)) (ms : List Int) (want : Int → Bool) (i : Nat) (key : List UInt8) : Bool := opB xs xb ks ms want key && !erl xb ks i key
theorem lft_0 (key : List UInt8) : lft xs xb ks ms want 0 key = opB xs xb ks ms want key := by
  unfold lft
  rw [show erl xb ks 0 key = false from rfl]; simp
theorem lft_t {i : Int} (hi : 0 ≤ i) (h : xb.getD i.toNat false = true) (key : List UInt8) : lft xs xb ks ms want (i + 1).toNat key = (lft xs xb ks ms want i.toNat key && !decide (key = ks.getD i.toNat [])) := by
  rw [show (i + 1).toNat = i.toNat + 1 by omega]
  unfold lft
  rw [erl_succ, h, Bool.true_and, Bool.not_or, Bool.and_assoc]
  congr 3
  rw [decide_eq_decide]
  exact eq_comm
theorem lft_f {i : Int} (hi : 0 ≤ i) (h : xb.getD i.toNat false = false ∨ lft xs xb ks ms want i.toNat (ks.getD i.toNat []) = false) (key : List UInt8) : lft xs xb ks ms want (i + 1).toNat key = lft xs xb ks ms want i.toNat key := by
  rcases h with h | h
  · rw [show (i + 1).toNat = i.toNat + 1 by omega]
    unfold lft
    rw [erl_succ, h, Bool.false_and, Bool.or_false]
  · by_cases hb : xb.getD i.toNat false = true
    · rw [lft_t hi hb]
      by_cases hk : key = ks.getD i.toNat []
      · subst hk; rw [h]; rfl
      · rw [decide_eq_false hk]; simp
    · rw [show (i + 1).toNat = i.toNat + 1 by omega]
      unfold lft
      rw [erl_succ, Bool.eq_false_iff.2 hb, Bool.false_and, Bool.or_false]
theorem cls_t {i : Int} (hi : 0 ≤ i) (h : xb.getD i.toNat false = true ∧ lft xs xb ks ms want i.toNat (ks.getD i.toNat []) = true) : clsL xs xb ks ms want (i + 1).toNat = clsL xs xb ks ms want i.toNat ++ [xs.getD i.toNat 0] := by
  rw [show (i + 1).toNat = i.toNat + 1 by omega, clsL, if_pos]
  have h2 := h.2
  unfold lft at h2
  rw [h.1, Bool.true_and]
  exact h2
theorem cls_f {i : Int} (hi : 0 ≤ i) (h : xb.getD i.toNat false = false ∨ lft xs xb ks ms want i.toNat (ks.getD i.toNat []) = false) : clsL xs xb ks ms want (i + 1).toNat = clsL xs xb ks ms want i.toNat := by
  rw [show (i + 1).toNat = i.toNat + 1 by omega, clsL, if_neg]
  rcases h with h | h
  · rw [h]; simp
  · unfold lft at h
    cases hb : xb.getD i.toNat false with
    | false => simp
    | true => rw [Bool.true_and, h]; decide
end
end Go.Fw.Hu
end

section
/- hunt: what is asked next, what is open, what is found. -/
namespace Go.Fw.Hu
open Gu
/-! ### the number of ones, as the library reckons it -/
def shr (x : UInt64) (k : Int) : UInt64 := UInt64.ofNat (x.toNat / 2 ^ min k.toNat 64)
def o1 (x : UInt64) : UInt64 := (shr x 1 &&& 6148914691236517205) + (x &&& 6148914691236517205)
def o2 (x : UInt64) : UInt64 := (shr x 2 &&& 3689348814741910323) + (x &&& 3689348814741910323)
def o3 (x : UInt64) : UInt64 := (shr x 4 + x) &&& 1085102592571150095
def o4 (x : UInt64) (k : Int) : UInt64 := x + shr x k
def ocv (x : UInt64) : Int := iand (sgn (o4 (o4 (o4 (o3 (o2 (o1 x))) 8) 16) 32)) 127
def szF (x : Int) : Int := ocv (ofq x)
/-! ### next -/
def bsN (xs ms : List Int) (b : Int) (i : Nat) : Int := if ms.getD i 0 = 0 ∧ (b < 0 ∨ szF (xs.getD i 0) < szF (xs.getD b.toNat 0)) then (i : Int) else b
def bst (xs ms : List Int) (l : List Nat) : Int := l.foldl (bsN xs ms) (-1)
def nxB (xs : List Int) (xb : List Bool) (ms : List Int) : Int := bst xs ms (frl xs xb ms)
def nxI (xs : List Int) (xb : List Bool) (ks : List (List UInt8)) (ms : List Int) : Int := if fitB xs xb ks ms then nxB xs xb ms else -1
def nxS (xs : List Int) (xb : List Bool) (ks : List (List UInt8)) (ms : List Int) : Int := if nxI xs xb ks ms < 0 then 0 else xs.getD (nxI xs xb ks ms).toNat 0
def nxO (xs : List Int) (xb : List Bool) (ks : List (List UInt8)) (ms : List Int) : Bool := !decide (nxI xs xb ks ms < 0)
def kE (xs : List Int) (xb : List Bool) (ks : List (List UInt8)) (ms : List Int) : Int := if fitB xs xb ks ms then 0 else 1
section
variable {xs : List Int} {xb : List Bool} {ks : List (List UInt8)} {ms : List Int}
theorem bst_rng : ∀ (l : List Nat) (n : Nat), (∀ i ∈ l, i < n) → -1 ≤ bst xs ms l ∧ bst xs ms l < n := by
  have key : ∀ (l : List Nat) (n : Nat) (b : Int), (∀ i ∈ l, i < n) → (-1 ≤ b ∧ b < n) → -1 ≤ l.foldl (bsN xs ms) b ∧ l.foldl (bsN xs ms) b < n := by
    intro l
    induction l with
    | nil => intro n b _ hb; exact hb
    | cons i l ih =>
      intro n b hl hb
      rw [List.foldl_cons]
      refine ih n _ (fun j hj => hl j (List.mem_cons_of_mem _ hj)) ?_
      have := hl i List.mem_cons_self
      unfold bsN
      split <;> omega
  intro l n hl
  exact key l n (-1) hl (by omega)
theorem frl_lt : ∀ i ∈ frl xs xb ms, i < xs.length := fun i hi => (frl_mem.1 hi).1
theorem bstk_rng (k : Nat) : -1 ≤ bst xs ms ((frl xs xb ms).take k) ∧ bst xs ms ((frl xs xb ms).take k) < xs.length := bst_rng _ _ fun i hi => frl_lt i (List.mem_of_mem_take hi)
theorem bst_t {k : Nat} {i : Int} {b : Int} (h : k < (frl xs xb ms).length) (hi : i = (((frl xs xb ms).getD k 0 : Nat) : Int)) (hb : b = bst xs ms ((frl xs xb ms).take k)) (hc : ms.getD i.toNat 0 = 0 ∧ (b < 0 ∨ szF (xs.getD i.toNat 0) < szF (xs.getD b.toNat 0))) : bst xs ms ((frl xs xb ms).take (k + 1)) = i := by
  subst hi hb
  rw [take_frl h]
  unfold bst at hc ⊢
  rw [List.foldl_append, List.foldl_cons, List.foldl_nil, bsN, if_pos]
  simpa using hc
theorem bst_f {k : Nat} {i : Int} {b : Int} (h : k < (frl xs xb ms).length) (hi : i = (((frl xs xb ms).getD k 0 : Nat) : Int)) (hb : b = bst xs ms ((frl xs xb ms).take k)) (hc : ¬ (ms.getD i.toNat 0 = 0 ∧ (b < 0 ∨ szF (xs.getD i.toNat 0) < szF (xs.getD b.toNat 0)))) : bst xs ms ((frl xs xb ms).take (k + 1)) = b := by
  subst hi hb
  rw [take_frl h]
  unfold bst at hc ⊢
  rw [List.foldl_append, List.foldl_cons, List.foldl_nil, bsN, if_neg]
  · simpa using hc
theorem kE_f (h : fitB xs xb ks ms = false) : kE xs xb ks ms = 1 := by unfold kE; rw [h]; rfl
theorem kE_t (h : fitB xs xb ks ms = true) : kE xs xb ks ms = 0 := by unfold kE; rw [h]; rfl
theorem nx_f (h : fitB xs xb ks ms = false) : nxI xs xb ks ms = -1 := by unfold nxI; rw [h]; rfl
theorem nx_t (h : fitB xs xb ks ms = true) : nxI xs xb ks ms = nxB xs xb ms := by unfold nxI; rw [h]; rfl
theorem nxT (h : fitB xs xb ks ms = false) : Value.tuple #[vi 0, .bool false, vi 1] = .tuple #[vi (nxS xs xb ks ms), .bool (nxO xs xb ks ms), vi (kE xs xb ks ms)] := by
  unfold nxS nxO
  rw [nx_f h, kE_f h]; rfl
theorem nxT0 (h : fitB xs xb ks ms = true) (h2 : nxB xs xb ms < 0) : Value.tuple #[vi 0, .bool false, vi 0] = .tuple #[vi (nxS xs xb ks ms), .bool (nxO xs xb ks ms), vi (kE xs xb ks ms)] := by
  unfold nxS nxO
  rw [nx_t h, kE_t h, if_pos h2, decide_eq_true h2]; rfl
theorem nxT1 (h : fitB xs xb ks ms = true) (h2 : ¬ nxB xs xb ms < 0) : Value.tuple #[vi (xs.getD (nxB xs xb ms).toNat 0), .bool true, vi 0] = .tuple #[vi (nxS xs xb ks ms), .bool (nxO xs xb ks ms), vi (kE xs xb ks ms)] := by
  unfold nxS nxO
  rw [nx_t h, kE_t h, if_neg h2, decide_eq_false h2]; rfl
end
/-! ### open, needed -/
def clsQ (xs : List Int) (xb : List Bool) (ks : List (List UInt8)) (ms : List Int) (want : Int → Bool) : List Int := if fitB xs xb ks ms then clsL xs xb ks ms want xs.length else []
def isO (m : Int) : Bool := decide (m = 0)
def isN (m : Int) : Bool := !decide (m = 0)
def opnL (xs : List Int) (xb : List Bool) (ks : List (List UInt8)) (ms : List Int) : List Int := clsQ xs xb ks ms isO
def ndL (xs : List Int) (xb : List Bool) (ks : List (List UInt8)) (ms : List Int) : List Int := clsQ xs xb ks ms isN
def dnB (xs : List Int) (xb : List Bool) (ks : List (List UInt8)) (ms : List Int) : Bool := fitB xs xb ks ms && decide ((opnL xs xb ks ms).length = 0)
/-! ### found -/
def fdj (xs : List Int) (xb : List Bool) (ms : List Int) (x : Int) (j : Nat) : Bool := !((xb.getD j false && blw (xs.getD j 0) x) && !decide (ms.getD j 0 = 1))
def fdk (xs : List Int) (xb : List Bool) (ms : List Int) (i j : Nat) : Bool := decide (ms.getD i 0 = 2) && (List.range j).all (fdj xs xb ms (xs.getD i 0))
def fdL (xs : List Int) (xb : List Bool) (ms : List Int) : Nat → List Int
  | 0 => []
  | k + 1 => if fdk xs xb ms k xs.length then fdL xs xb ms k ++ [xs.getD k 0] else fdL xs xb ms k
def fndL (xs : List Int) (xb : List Bool) (ks : List (List UInt8)) (ms : List Int) : List Int := if fitB xs xb ks ms then fdL xs xb ms xs.length else []
theorem fdk_0 (xs : List Int) (xb : List Bool) (ms : List Int) (i : Nat) : fdk xs xb ms i 0 = decide (ms.getD i 0 = 2) := by unfold fdk; simp
theorem fdk_succ (xs : List Int) (xb : List Bool) (ms : List Int) (i j : Nat) : fdk xs xb ms i (j + 1) = (fdk xs xb ms i j && fdj xs xb ms (xs.getD i 0) j) := by
  unfold fdk
  rw [List.range_succ, List.all_append, Bool.and_assoc]
  simp
theorem fdL_len (xs : List Int) (xb : List Bool) (ms : List Int) : ∀ k, (fdL xs xb ms k).length ≤ k
  | 0 => Nat.le_refl _
  | k + 1 => by
    have := fdL_len xs xb ms k
    unfold fdL
    split
    · simp; omega
    · omega
theorem fdL_mem {xs : List Int} {xb : List Bool} {ms : List Int} : ∀ k, k ≤ xs.length → ∀ x ∈ fdL xs xb ms k, x ∈ xs
  | 0, _, x, h => by cases h
  | k + 1, hk, x, h => by
    unfold fdL at h
    split at h
    · rcases List.mem_append.1 h with h | h
      · exact fdL_mem k (by omega) x h
      · rw [List.mem_singleton.1 h]; exact getD_mem' (by omega)
    · exact fdL_mem k (by omega) x h
theorem fdL_t {xs : List Int} {xb : List Bool} {ms : List Int} {i : Int} (hi : 0 ≤ i) (h : fdk xs xb ms i.toNat xs.length = true) : fdL xs xb ms (i + 1).toNat = fdL xs xb ms i.toNat ++ [xs.getD i.toNat 0] := by
  rw [show (i + 1).toNat = i.toNat + 1 by omega, fdL, if_pos h]
theorem fdL_f {xs : List Int} {xb : List Bool} {ms : List Int} {i : Int} (hi : 0 ≤ i) (h : fdk xs xb ms i.toNat xs.length = false) : fdL xs xb ms (i + 1).toNat = fdL xs xb ms i.toNat := by
  rw [show (i + 1).toNat = i.toNat + 1 by omega, fdL, if_neg (by rw [h]; decide)]
end Go.Fw.Hu
namespace Go.Fw.Hu
theorem dn_eq {xs : List Int} {xb : List Bool} {ks : List (List UInt8)} {ms : List Int} : Value.tuple #[.bool (decide (kE xs xb ks ms = 0) && decide (((opnL xs xb ks ms).length : Int) = 0)), vi (kE xs xb ks ms)] = .tuple #[.bool (dnB xs xb ks ms), vi (kE xs xb ks ms)] := by
  unfold dnB
  have e1 : decide (kE xs xb ks ms = 0) = fitB xs xb ks ms := by
    unfold kE
    cases fitB xs xb ks ms <;> rfl
  have e2 : decide (((opnL xs xb ks ms).length : Int) = 0) = decide ((opnL xs xb ks ms).length = 0) := by rw [decide_eq_decide]; omega
  rw [e1, e2]
end Go.Fw.Hu
end

section
/- hunt: New and Tell. -/
namespace Go.Fw.Hu
open Gu
abbrev KN := List (List UInt8) × List Int × Int
def newK (xs : List Int) (xb : List Bool) (ks : List (List UInt8)) : KN := if ordB xs xb && decide (ks.length = xs.length) then (ks, List.replicate ks.length 0, 0) else ([], [], 1)
def tlm (xb : List Bool) (ks : List (List UInt8)) (ms : List Int) (at_ mark : Int) (i : Nat) : List Int := (List.range ms.length).map fun j => if decide (j < i) && (xb.getD j false && decide (ks.getD j [] = ks.getD at_.toNat [])) then mark else ms.getD j 0
def markOf (bad : Bool) : Int := if bad then 2 else 1
def telK (xs : List Int) (xb : List Bool) (ks : List (List UInt8)) (ms : List Int) (s : Int) (bad : Bool) : KN :=
  if fitB xs xb ks ms then
    if ixF (fun y => decide (s = y)) xs < 0 ∨ xb.getD (ixF (fun y => decide (s = y)) xs).toNat false = false then ([], [], 6)
    else if ms.getD (ixF (fun y => decide (s = y)) xs).toNat 0 ≠ 0 ∧ ms.getD (ixF (fun y => decide (s = y)) xs).toNat 0 ≠ markOf bad then ([], [], 14)
    else (ks, tlm xb ks ms (ixF (fun y => decide (s = y)) xs) (markOf bad) xs.length, 0)
  else ([], [], 1)
section
variable {xs : List Int} {xb : List Bool} {ks : List (List UInt8)} {ms : List Int} {at_ mark : Int}
theorem tlm_len (i : Nat) : (tlm xb ks ms at_ mark i).length = ms.length := by simp [tlm]
theorem tlm_0 : tlm xb ks ms at_ mark 0 = ms := by
  apply List.ext_getElem (by simp [tlm])
  intro j h1 h2
  simp [tlm, h2]
theorem tlm_t {i : Int} (hi : 0 ≤ i ∧ i < ms.length) (h : xb.getD i.toNat false = true ∧ ks.getD i.toNat [] = ks.getD at_.toNat []) : tlm xb ks ms at_ mark (i + 1).toNat = (tlm xb ks ms at_ mark i.toNat).set i.toNat mark := by
  rw [show (i + 1).toNat = i.toNat + 1 by omega]
  apply List.ext_getElem (by simp [tlm])
  intro j h1 h2
  rw [List.getElem_set]
  simp only [tlm, List.getElem_map, List.getElem_range]
  by_cases hj : i.toNat = j
  · subst hj
    rw [if_pos rfl, decide_eq_true (by omega), h.1, decide_eq_true h.2]
    rfl
  · rw [if_neg hj]
    have : decide (j < i.toNat + 1) = decide (j < i.toNat) := by rw [decide_eq_decide]; omega
    rw [this]
theorem tlm_f {i : Int} (hi : 0 ≤ i) (h : xb.getD i.toNat false = false ∨ ¬ ks.getD i.toNat [] = ks.getD at_.toNat []) : tlm xb ks ms at_ mark (i + 1).toNat = tlm xb ks ms at_ mark i.toNat := by
  rw [show (i + 1).toNat = i.toNat + 1 by omega]
  apply List.ext_getElem (by simp [tlm])
  intro j h1 h2
  simp only [tlm, List.getElem_map, List.getElem_range]
  by_cases hj : i.toNat = j
  · subst hj
    rw [decide_eq_false (show ¬ i.toNat < i.toNat by omega)]
    rcases h with h | h
    · rw [h]; simp
    · rw [decide_eq_false h]; simp
  · have : decide (j < i.toNat + 1) = decide (j < i.toNat) := by rw [decide_eq_decide]; omega
    rw [this]
theorem markOf_rng (bad : Bool) : 1 ≤ markOf bad ∧ markOf bad ≤ 2 := by unfold markOf; split <;> omega
theorem tlm_rng (hm : ∀ x ∈ ms, -9223372036854775808 ≤ x ∧ x ≤ 9223372036854775807) (h : 1 ≤ mark ∧ mark ≤ 2) (i : Nat) : ∀ x ∈ tlm xb ks ms at_ mark i, -9223372036854775808 ≤ x ∧ x ≤ 9223372036854775807 := fun x hx => by
  obtain ⟨j, hj, rfl⟩ := List.mem_map.1 hx
  split
  · omega
  · exact hm _ (getD_mem' (List.mem_range.1 hj))
theorem telK_1 {s : Int} {bad : Bool} (h : fitB xs xb ks ms = false) : telK xs xb ks ms s bad = ([], [], 1) := by unfold telK; rw [h]; rfl
theorem telK_6 {s : Int} {bad : Bool} (h : fitB xs xb ks ms = true) (h2 : ixF (fun y => decide (s = y)) xs < 0 ∨ xb.getD (ixF (fun y => decide (s = y)) xs).toNat false = false) : telK xs xb ks ms s bad = ([], [], 6) := by unfold telK; rw [h, if_pos rfl, if_pos h2]
theorem telK_14 {s : Int} {bad : Bool} (h : fitB xs xb ks ms = true) (h2 : ¬ (ixF (fun y => decide (s = y)) xs < 0 ∨ xb.getD (ixF (fun y => decide (s = y)) xs).toNat false = false)) (h3 : ms.getD (ixF (fun y => decide (s = y)) xs).toNat 0 ≠ 0 ∧ ms.getD (ixF (fun y => decide (s = y)) xs).toNat 0 ≠ markOf bad) : telK xs xb ks ms s bad = ([], [], 14) := by unfold telK; rw [h, if_pos rfl, if_neg h2, if_pos h3]
theorem telK_0 {s : Int} {bad : Bool} (h : fitB xs xb ks ms = true) (h2 : ¬ (ixF (fun y => decide (s = y)) xs < 0 ∨ xb.getD (ixF (fun y => decide (s = y)) xs).toNat false = false)) (h3 : ¬ (ms.getD (ixF (fun y => decide (s = y)) xs).toNat 0 ≠ 0 ∧ ms.getD (ixF (fun y => decide (s = y)) xs).toNat 0 ≠ markOf bad)) : telK xs xb ks ms s bad = (ks, tlm xb ks ms (ixF (fun y => decide (s = y)) xs) (markOf bad) xs.length, 0) := by unfold telK; rw [h, if_pos rfl, if_neg h2, if_neg h3]
theorem newK_1 (h : ordB xs xb = false ∨ ¬ (ks.length : Int) = xs.length) : newK xs xb ks = ([], [], 1) := by
  unfold newK
  rw [if_neg]
  rcases h with h | h
  · rw [h]; simp
  · rw [decide_eq_false (show ¬ ks.length = xs.length by omega)]; simp
theorem newK_0 (h : ordB xs xb = true ∧ (ks.length : Int) = xs.length) : newK xs xb ks = (ks, List.replicate ks.length 0, 0) := by
  unfold newK
  rw [h.1, decide_eq_true (show ks.length = xs.length by omega)]; rfl
end
end Go.Fw.Hu
end

section
/- hunt: Run and Line. -/
namespace Go.Fw.Hu
open Gu
def ixS (xs : List Int) (s : Int) : Int := ixF (fun y => decide (s = y)) xs
def stp (xs : List Int) (xb : List Bool) (ks : List (List UInt8)) (bad : List Bool) (σ : List Int × List Int) : List Int × List Int :=
  if nxO xs xb ks σ.1 then ((telK xs xb ks σ.1 (nxS xs xb ks σ.1) (bad.getD (ixS xs (nxS xs xb ks σ.1)).toNat false)).2.1, σ.2 ++ [nxS xs xb ks σ.1]) else σ
def runS (xs : List Int) (xb : List Bool) (ks : List (List UInt8)) (bad : List Bool) : Nat → List Int × List Int
  | 0 => (List.replicate ks.length 0, [])
  | j + 1 => stp xs xb ks bad (runS xs xb ks bad j)
def runOk (xs : List Int) (xb : List Bool) (ks : List (List UInt8)) (bad : List Bool) : Bool := (ordB xs xb && decide (ks.length = xs.length)) && decide (bad.length = xs.length)
def runA (xs : List Int) (xb : List Bool) (ks : List (List UInt8)) (bad : List Bool) : List Int := if runOk xs xb ks bad then (runS xs xb ks bad xs.length).2 else []
def runF (xs : List Int) (xb : List Bool) (ks : List (List UInt8)) (bad : List Bool) : List Int := if runOk xs xb ks bad then fndL xs xb ks (runS xs xb ks bad xs.length).1 else []
def runE (xs : List Int) (xb : List Bool) (ks : List (List UInt8)) (bad : List Bool) : Int := if runOk xs xb ks bad then 0 else 1
def zc (m : List Int) : Nat := (m.filter fun x => decide (x = 0)).length
section
variable {xs : List Int} {xb : List Bool} {ks : List (List UInt8)} {bad : List Bool} {m : List Int}
theorem getD_rep (n i : Nat) : (List.replicate n (0 : Int)).getD i 0 = 0 := by
  rw [List.getD_eq_getElem?_getD]
  cases h : (List.replicate n (0 : Int))[i]? with
  | none => rfl
  | some x => rw [List.getElem?_replicate] at h; split at h <;> simp at h; subst h; rfl
theorem fit_new (h : ordB xs xb = true) (hk : ks.length = xs.length) : fitB xs xb ks (List.replicate ks.length 0) = true := by
  refine fit_ok (by unfold lenB; rw [h, decide_eq_true hk, decide_eq_true (by simpa using hk)]; rfl) fun i hi => fitI_of ?_ fun j hj => ?_
  · rw [getD_rep]; unfold rgM; simp
  · unfold sameI; rw [getD_rep, getD_rep]; simp
theorem ixS_get (hn : nod xs = true) {b : Nat} (hb : b < xs.length) : ixS xs (xs.getD b 0) = b := by
  unfold ixS
  refine ixF_at hb (by simp) fun j hj => decide_eq_false fun e => ?_
  rw [nod_no hb hj e] at hn
  cases hn
/-- What it is that is asked next. -/
theorem bst_in : ∀ (l : List Nat), bst xs m l = -1 ∨ ∃ i ∈ l, bst xs m l = (i : Int) ∧ m.getD i 0 = 0 := by
  have key : ∀ (l : List Nat) (b : Int), l.foldl (bsN xs m) b = b ∨ ∃ i ∈ l, l.foldl (bsN xs m) b = (i : Int) ∧ m.getD i 0 = 0 := by
    intro l
    induction l with
    | nil => intro b; exact .inl rfl
    | cons i l ih =>
      intro b
      rw [List.foldl_cons]
      rcases ih (bsN xs m b i) with h | ⟨j, hj, h1, h2⟩
      · rw [h]
        unfold bsN
        split
        · rename_i hc
          exact .inr ⟨i, List.mem_cons_self, rfl, hc.1⟩
        · exact .inl rfl
      · exact .inr ⟨j, List.mem_cons_of_mem _ hj, h1, h2⟩
  exact fun l => key l (-1)
theorem nx_use (h : nxO xs xb ks m = true) : fitB xs xb ks m = true ∧ ∃ b : Nat, b < xs.length ∧ nxB xs xb m = (b : Int) ∧ fre xs xb m b = true ∧ m.getD b 0 = 0 ∧ nxS xs xb ks m = xs.getD b 0 ∧ ixS xs (nxS xs xb ks m) = b := by
  have hb : ¬ nxI xs xb ks m < 0 := by
    intro hc
    unfold nxO at h
    rw [decide_eq_true hc] at h
    cases h
  have hft : fitB xs xb ks m = true := by
    cases hf : fitB xs xb ks m with
    | true => rfl
    | false => rw [nx_f hf] at hb; exact absurd (by decide) hb
  rw [nx_t hft] at hb
  refine ⟨hft, ?_⟩
  rcases bst_in (xs := xs) (m := m) (frl xs xb m) with h1 | ⟨i, hi, h1, h2⟩
  · unfold nxB at hb; rw [h1] at hb; exact absurd (by decide) hb
  · obtain ⟨h3, h4⟩ := frl_mem.1 hi
    have hs : nxS xs xb ks m = xs.getD i 0 := by
      unfold nxS
      rw [nx_t hft, if_neg hb]
      unfold nxB
      rw [h1, Int.toNat_natCast]
    refine ⟨i, h3, h1, h4, h2, hs, ?_⟩
    rw [hs, ixS_get (fit_use hft).1 h3]
theorem tlm_get {at_ mark : Int} {j : Nat} (n : Nat) (hj : j < m.length) : (tlm xb ks m at_ mark n).getD j 0 = if decide (j < n) && (xb.getD j false && decide (ks.getD j [] = ks.getD at_.toNat [])) then mark else m.getD j 0 := by
  unfold tlm
  rw [List.getD_eq_getElem?_getD, List.getElem?_map, List.getElem?_range hj]
  rfl
/-- Telling keeps what fits. -/
theorem fit_tel (h : fitB xs xb ks m = true) {b : Nat} (hb : b < xs.length) (hxb : xb.getD b false = true) {mark : Int} (hk : 1 ≤ mark ∧ mark ≤ 2) : fitB xs xb ks (tlm xb ks m (b : Int) mark xs.length) = true := by
  obtain ⟨h1, h2, h3, h4, h5, h6⟩ := fit_use h
  have hg : ∀ j, j < xs.length → (tlm xb ks m (b : Int) mark xs.length).getD j 0 = if (xb.getD j false && decide (ks.getD j [] = ks.getD b [])) then mark else m.getD j 0 := fun j hj => by
    rw [tlm_get xs.length (by omega), decide_eq_true hj, Bool.true_and, Int.toNat_natCast]
  refine fit_ok ?_ fun i hi => fitI_of ?_ fun j hj => ?_
  · have h' := h
    unfold fitB lenB at h'
    simp only [Bool.and_eq_true, decide_eq_true_eq] at h'
    unfold lenB
    rw [h'.1.1.1, decide_eq_true h3, tlm_len, decide_eq_true h4]; rfl
  · rw [hg i hi]
    split
    · rename_i hc
      rw [Bool.and_eq_true] at hc
      rw [hc.1]
      unfold rgM
      rw [decide_eq_true (show 0 ≤ mark by omega), decide_eq_true (show mark ≤ 2 by omega)]; rfl
    · exact h5 i hi
  · have hs := h6 i j hi hj
    unfold sameI at hs ⊢
    rw [hg i hi, hg j (by omega)]
    cases hxi : xb.getD i false with
    | false => rfl
    | true =>
      cases hxj : xb.getD j false with
      | false => rfl
      | true =>
        by_cases he : ks.getD i [] = ks.getD j []
        · rw [he]
          split
          · simp
          · rw [hxi, hxj, decide_eq_true he] at hs
            simpa using hs
        · rw [decide_eq_false he]; simp
theorem tel_use (h : nxO xs xb ks m = true) (bd : Bool) : ∃ b : Nat, b < xs.length ∧ ixS xs (nxS xs xb ks m) = b ∧ m.getD b 0 = 0 ∧ xb.getD b false = true ∧ telK xs xb ks m (nxS xs xb ks m) bd = (ks, tlm xb ks m (b : Int) (markOf bd) xs.length, 0) ∧ fitB xs xb ks (tlm xb ks m (b : Int) (markOf bd) xs.length) = true := by
  obtain ⟨hft, b, hb, h1, h2, h3, h4, h5⟩ := nx_use h
  have hxb : xb.getD b false = true := (Bool.and_eq_true_iff.1 h2).1
  refine ⟨b, hb, h5, h3, hxb, ?_, fit_tel hft hb hxb (markOf_rng bd)⟩
  have hi : ixF (fun y => decide (nxS xs xb ks m = y)) xs = (b : Int) := h5
  rw [telK_0 hft (by rw [hi, Int.toNat_natCast, hxb]; simp) (by rw [hi, Int.toNat_natCast, h3]; simp), hi]
theorem zc_lt : ∀ (m m' : List Int), m'.length = m.length → (∀ j, j < m.length → m'.getD j 0 = 0 → m.getD j 0 = 0) → (∃ b, b < m.length ∧ m.getD b 0 = 0 ∧ m'.getD b 0 ≠ 0) → zc m' < zc m := by
  have le : ∀ (m m' : List Int), m'.length = m.length → (∀ j, j < m.length → m'.getD j 0 = 0 → m.getD j 0 = 0) → zc m' ≤ zc m := by
    intro m
    induction m with
    | nil => intro m' hl _; rw [List.eq_nil_of_length_eq_zero hl]; exact Nat.le_refl _
    | cons x m ih =>
      intro m' hl h
      cases m' with
      | nil => simp at hl
      | cons y m' =>
        have h0 := h 0 (by simp)
        have := ih m' (by simpa using hl) fun j hj he => by have := h (j + 1) (by simpa using hj); simp only [List.getD_cons_succ] at this; exact this he
        simp only [List.getD_cons_zero] at h0
        unfold zc at this ⊢
        by_cases hy : y = 0
        · rw [List.filter_cons_of_pos (by simpa using hy), List.filter_cons_of_pos (by simpa using h0 hy)]
          simpa using this
        · rw [List.filter_cons_of_neg (by simpa using hy)]
          refine Nat.le_trans this ?_
          by_cases hx : x = 0
          · rw [List.filter_cons_of_pos (by simpa using hx)]; simp
          · rw [List.filter_cons_of_neg (by simpa using hx)]; exact Nat.le_refl _
  intro m
  induction m with
  | nil => intro m' _ _ ⟨b, hb, _⟩; simp at hb
  | cons x m ih =>
    intro m' hl h hex
    cases m' with
    | nil => simp at hl
    | cons y m' =>
      obtain ⟨b, hb, h1, h2⟩ := hex
      have hl' : m'.length = m.length := by simpa using hl
      have h' : ∀ j, j < m.length → m'.getD j 0 = 0 → m.getD j 0 = 0 := fun j hj he => by have := h (j + 1) (by simpa using hj); simp only [List.getD_cons_succ] at this; exact this he
      have h0 := h 0 (by simp)
      simp only [List.getD_cons_zero] at h0
      cases b with
      | zero =>
        simp only [List.getD_cons_zero] at h1 h2
        have := le m m' hl' h'
        unfold zc at this ⊢
        rw [List.filter_cons_of_neg (by simpa using h2), List.filter_cons_of_pos (by simpa using h1)]
        simp only [List.length_cons]
        omega
      | succ b =>
        simp only [List.getD_cons_succ] at h1 h2
        have := ih m' hl' h' ⟨b, by simpa using hb, h1, h2⟩
        unfold zc at this ⊢
        by_cases hy : y = 0
        · rw [List.filter_cons_of_pos (by simpa using hy), List.filter_cons_of_pos (by simpa using h0 hy)]
          simp only [List.length_cons]
          omega
        · rw [List.filter_cons_of_neg (by simpa using hy)]
          by_cases hx : x = 0
          · rw [List.filter_cons_of_pos (by simpa using hx)]; simp only [List.length_cons]; omega
          · rw [List.filter_cons_of_neg (by simpa using hx)]; exact this
theorem zc_tel (h : fitB xs xb ks m = true) {b : Nat} (hb : b < xs.length) (h0 : m.getD b 0 = 0) (hxb : xb.getD b false = true) {mark : Int} (hk : 1 ≤ mark ∧ mark ≤ 2) : zc (tlm xb ks m (b : Int) mark xs.length) < zc m := by
  have hml := (fit_use h).2.2.2.1
  refine zc_lt m _ (tlm_len _) (fun j hj he => ?_) ⟨b, by omega, h0, ?_⟩
  · rw [tlm_get xs.length hj] at he
    split at he
    · omega
    · exact he
  · rw [tlm_get xs.length (by omega), decide_eq_true hb, hxb, Int.toNat_natCast]
    simp
    omega
theorem zc_le (m : List Int) : zc m ≤ m.length := List.length_filter_le _ _
theorem run_step {j : Nat} {A : List Int} (hj : runS xs xb ks bad j = (m, A)) (h : nxO xs xb ks m = true) : runS xs xb ks bad (j + 1) = ((telK xs xb ks m (nxS xs xb ks m) (bad.getD (ixS xs (nxS xs xb ks m)).toNat false)).2.1, A ++ [nxS xs xb ks m]) := by
  rw [runS, hj, stp, if_pos h]
theorem run_end {j : Nat} {A : List Int} (hj : runS xs xb ks bad j = (m, A)) (h : nxO xs xb ks m = false) : ∀ t, j ≤ t → runS xs xb ks bad t = (m, A) := by
  intro t ht
  induction t with
  | zero => rw [← hj]; congr 1; omega
  | succ t ih =>
    rcases Nat.lt_or_ge t j with h' | h'
    · rw [show t + 1 = j by omega]; exact hj
    · rw [runS, ih h', stp, if_neg (by rw [h]; decide)]
theorem runOk_no (h : ordB xs xb = false ∨ ¬ ks.length = xs.length ∨ ¬ bad.length = xs.length) : runOk xs xb ks bad = false := by
  unfold runOk
  rcases h with h | h | h
  · rw [h]; rfl
  · rw [decide_eq_false h]; simp
  · rw [decide_eq_false h]; simp
theorem runOk_ok (h : ordB xs xb = true) (h2 : ks.length = xs.length) (h3 : bad.length = xs.length) : runOk xs xb ks bad = true := by
  unfold runOk
  rw [h, decide_eq_true h2, decide_eq_true h3]; rfl
end
end Go.Fw.Hu
namespace Go.Fw.Hu
open Gu
theorem newK_use {xs : List Int} {xb : List Bool} {ks : List (List UInt8)} (h : (newK xs xb ks).2.2 = 0) : ordB xs xb = true ∧ ks.length = xs.length ∧ newK xs xb ks = (ks, List.replicate ks.length 0, 0) := by
  unfold newK at h ⊢
  split at h
  · rename_i hc
    rw [Bool.and_eq_true, decide_eq_true_eq] at hc
    rw [if_pos (by rw [hc.1, decide_eq_true hc.2]; rfl)]
    exact ⟨hc.1, hc.2, rfl⟩
  · cases h
theorem run_bad {xs : List Int} {xb : List Bool} {ks : List (List UInt8)} {bad : List Bool} (h : ¬ (newK xs xb ks).2.2 = 0 ∨ ¬ (bad.length : Int) = xs.length) : runOk xs xb ks bad = false := by
  rcases h with h | h
  · unfold newK at h
    split at h
    · exact absurd rfl h
    · rename_i hc
      unfold runOk
      rw [Bool.eq_false_iff.2 hc]; rfl
  · exact runOk_no (.inr (.inr (by omega)))
theorem run_fin {xs : List Int} {xb : List Bool} {ks : List (List UInt8)} {bad : List Bool} {m A : List Int} {j : Nat} (hk : runOk xs xb ks bad = true) (hj : runS xs xb ks bad j = (m, A)) (h : nxO xs xb ks m = false) (hl : j ≤ xs.length) : runA xs xb ks bad = A ∧ runF xs xb ks bad = fndL xs xb ks m ∧ runE xs xb ks bad = 0 := by
  have := run_end hj h _ hl
  unfold runA runF runE
  rw [hk, this]
  exact ⟨rfl, rfl, rfl⟩
theorem run_err {xs : List Int} {xb : List Bool} {ks : List (List UInt8)} {bad : List Bool} (hk : runOk xs xb ks bad = false) : runA xs xb ks bad = [] ∧ runF xs xb ks bad = [] ∧ runE xs xb ks bad = 1 := by
  unfold runA runF runE
  rw [hk]
  exact ⟨rfl, rfl, rfl⟩
end Go.Fw.Hu
end

section
/- hunt: Line. -/
namespace Go.Fw.Hu
open Gu
def ats (xs p : List Int) : List Int := p.map (ixS xs)
def mk2 (ms : List Int) (i : Int) : Bool := decide (ms.getD i.toNat 0 = 2)
def lnH (ms A : List Int) : Int := ixF (mk2 ms) A
def lnLo (ms A : List Int) : Nat → Int
  | 0 => 0
  | k + 1 => if ms.getD (A.getD k 0).toNat 0 = 1 then (k : Int) else lnLo ms A k
def lnLow (ms A : List Int) : Int := lnLo ms A (lnH ms A).toNat
def apt (i m : Int) : Int := max (i - m) (m - i)
def lnMid (ms A : List Int) : Int := (lnLow ms A + lnH ms A) / 2
def lnBs (xb : List Bool) (A : List Int) (mid lo : Int) : Nat → Int
  | 0 => -1
  | n + 1 => if xb.getD (A.getD (lo + 1 + n).toNat 0).toNat false = true ∧ (lnBs xb A mid lo n < 0 ∨ apt (lo + 1 + n) mid < apt (lnBs xb A mid lo n) mid) then lo + 1 + n else lnBs xb A mid lo n
def lnB (xb : List Bool) (ms A : List Int) : Int := lnBs xb A (lnMid ms A) (lnLow ms A) (lnH ms A - lnLow ms A - 1).toNat
def lnR (xs : List Int) (xb : List Bool) (ks : List (List UInt8)) (ms p : List Int) : Int × Bool × Int :=
  if fitB xs xb ks ms = false ∨ p.length < 2 then (0, false, 1)
  else if (-1 : Int) ∈ ats xs p then (0, false, 6)
  else if ¬ ms.getD ((ats xs p).getD 0 0).toNat 0 = 1 ∨ ¬ ms.getD ((ats xs p).getD (p.length - 1) 0).toNat 0 = 2 then (0, false, 14)
  else if lnB xb ms (ats xs p) < 0 then (p.getD (lnH ms (ats xs p)).toNat 0, false, 0) else (p.getD (lnB xb ms (ats xs p)).toNat 0, true, 0)
def lnV (r : Int × Bool × Int) : Value := .tuple #[vi r.1, .bool r.2.1, vi r.2.2]
section
variable {xs : List Int} {xb : List Bool} {ks : List (List UInt8)} {ms p A : List Int}
theorem ats_len : (ats xs p).length = p.length := by simp [ats]
theorem ats_snoc {i : Int} (h : 0 ≤ i ∧ i < p.length) : ats xs (p.take (i + 1).toNat) = ats xs (p.take i.toNat) ++ [ixF (fun y => decide (p.getD i.toNat 0 = y)) xs] := by
  rw [show (i + 1).toNat = i.toNat + 1 by omega, take_snoc' (by omega)]
  unfold ats
  rw [List.map_append]
  rfl
theorem ixS_rng (s : Int) : -1 ≤ ixS xs s ∧ ixS xs s < xs.length := ixF_range _ _
theorem ats_rg (hl : xs.length ≤ 140737488355328) : ∀ x ∈ ats xs p, -9223372036854775808 ≤ x ∧ x ≤ 9223372036854775807 := fun x hx => by
  obtain ⟨s, _, rfl⟩ := List.mem_map.1 hx
  have := ixS_rng (xs := xs) s
  omega
theorem ats_all (h : (-1 : Int) ∉ ats xs p) : ∀ x ∈ ats xs p, 0 ≤ x ∧ x < xs.length := fun x hx => by
  have hne : x ≠ -1 := fun e => h (e ▸ hx)
  obtain ⟨s, _, rfl⟩ := List.mem_map.1 hx
  have := ixS_rng (xs := xs) s
  omega
theorem lnH_rng (hl : 2 ≤ A.length) (h1 : ms.getD (A.getD 0 0).toNat 0 = 1) (h2 : ms.getD (A.getD (A.length - 1) 0).toNat 0 = 2) : 1 ≤ lnH ms A ∧ lnH ms A < A.length ∧ ms.getD (A.getD (lnH ms A).toNat 0).toNat 0 = 2 := by
  unfold lnH
  have hr := ixF_range (mk2 ms) A
  have hge : 0 ≤ ixF (mk2 ms) A := by
    have := ixF_any (mk2 ms) A
    rw [show A.any (mk2 ms) = true from List.any_eq_true.2 ⟨_, getD_mem' (k := A.length - 1) (by omega), decide_eq_true h2⟩] at this
    exact of_decide_eq_true this
  obtain ⟨h3, h4, h5, h6⟩ := ixF_spec (p := mk2 ms) (xs := A) (by omega)
  refine ⟨?_, by omega, ?_⟩
  · rcases Int.lt_or_le 0 (ixF (mk2 ms) A) with h | h
    · omega
    · have e : ixF (mk2 ms) A = 0 := by omega
      rw [e] at h5
      have := of_decide_eq_true h5
      rw [show (0 : Int).toNat = 0 from rfl, h1] at this
      cases this
  · exact of_decide_eq_true h5
theorem lnLo_rng : ∀ k, 0 ≤ lnLo ms A k ∧ (lnLo ms A k < k ∨ lnLo ms A k = 0)
  | 0 => by simp [lnLo]
  | k + 1 => by
    have := lnLo_rng k
    unfold lnLo
    split <;> omega
theorem lnLo_t {i : Int} (hi : 0 ≤ i) (h : ms.getD (A.getD i.toNat 0).toNat 0 = 1) : lnLo ms A (i + 1).toNat = i := by
  rw [show (i + 1).toNat = i.toNat + 1 by omega, lnLo, if_pos h]; omega
theorem lnLo_f {i : Int} (hi : 0 ≤ i) (h : ¬ ms.getD (A.getD i.toNat 0).toNat 0 = 1) : lnLo ms A (i + 1).toNat = lnLo ms A i.toNat := by
  rw [show (i + 1).toNat = i.toNat + 1 by omega, lnLo, if_neg h]
theorem lnBs_rng {mid lo : Int} (hlo : 0 ≤ lo) : ∀ n, -1 ≤ lnBs xb A mid lo n ∧ lnBs xb A mid lo n < lo + 1 + n
  | 0 => by simp [lnBs]; omega
  | n + 1 => by
    have := lnBs_rng (mid := mid) hlo n
    unfold lnBs
    split <;> omega
theorem lnBs_t {mid lo i : Int} (hi : lo + 1 ≤ i) (h : xb.getD (A.getD i.toNat 0).toNat false = true ∧ (lnBs xb A mid lo (i - lo - 1).toNat < 0 ∨ apt i mid < apt (lnBs xb A mid lo (i - lo - 1).toNat) mid)) : lnBs xb A mid lo (i + 1 - lo - 1).toNat = i := by
  rw [show (i + 1 - lo - 1).toNat = (i - lo - 1).toNat + 1 by omega, lnBs]
  have e : lo + 1 + ((i - lo - 1).toNat : Int) = i := by omega
  rw [e, if_pos h]
theorem lnBs_f {mid lo i : Int} (hi : lo + 1 ≤ i) (h : ¬ (xb.getD (A.getD i.toNat 0).toNat false = true ∧ (lnBs xb A mid lo (i - lo - 1).toNat < 0 ∨ apt i mid < apt (lnBs xb A mid lo (i - lo - 1).toNat) mid))) : lnBs xb A mid lo (i + 1 - lo - 1).toNat = lnBs xb A mid lo (i - lo - 1).toNat := by
  rw [show (i + 1 - lo - 1).toNat = (i - lo - 1).toNat + 1 by omega, lnBs]
  have e : lo + 1 + ((i - lo - 1).toNat : Int) = i := by omega
  rw [e, if_neg h]
theorem lnMid_rng (h0 : 0 ≤ lnLow ms A) (h1 : lnLow ms A ≤ lnH ms A) : 0 ≤ lnMid ms A ∧ lnMid ms A ≤ lnH ms A := by
  unfold lnMid
  omega
theorem lnR_1 (h : fitB xs xb ks ms = false ∨ (p.length : Int) < 2) : lnR xs xb ks ms p = (0, false, 1) := by
  unfold lnR
  rw [if_pos (h.imp id fun h => by omega)]
theorem lnR_n (h : fitB xs xb ks ms = true ∧ ¬ (p.length : Int) < 2) : ¬ (fitB xs xb ks ms = false ∨ p.length < 2) := by
  rintro (h1 | h1)
  · rw [h.1] at h1; cases h1
  · have := h.2; omega
theorem lnR_6 (h : fitB xs xb ks ms = true ∧ ¬ (p.length : Int) < 2) (h2 : (-1 : Int) ∈ ats xs p) : lnR xs xb ks ms p = (0, false, 6) := by
  unfold lnR
  rw [if_neg (lnR_n h), if_pos h2]
theorem lnR_14 (h : fitB xs xb ks ms = true ∧ ¬ (p.length : Int) < 2) (h2 : (-1 : Int) ∉ ats xs p) (h3 : ¬ ms.getD ((ats xs p).getD 0 0).toNat 0 = 1 ∨ ¬ ms.getD ((ats xs p).getD (p.length - 1) 0).toNat 0 = 2) : lnR xs xb ks ms p = (0, false, 14) := by
  unfold lnR
  rw [if_neg (lnR_n h), if_neg h2, if_pos h3]
theorem lnR_a (h : fitB xs xb ks ms = true ∧ ¬ (p.length : Int) < 2) (h2 : (-1 : Int) ∉ ats xs p) (h3 : ¬ (¬ ms.getD ((ats xs p).getD 0 0).toNat 0 = 1 ∨ ¬ ms.getD ((ats xs p).getD (p.length - 1) 0).toNat 0 = 2)) (h4 : lnB xb ms (ats xs p) < 0) : lnR xs xb ks ms p = (p.getD (lnH ms (ats xs p)).toNat 0, false, 0) := by
  unfold lnR
  rw [if_neg (lnR_n h), if_neg h2, if_neg h3, if_pos h4]
theorem lnR_b (h : fitB xs xb ks ms = true ∧ ¬ (p.length : Int) < 2) (h2 : (-1 : Int) ∉ ats xs p) (h3 : ¬ (¬ ms.getD ((ats xs p).getD 0 0).toNat 0 = 1 ∨ ¬ ms.getD ((ats xs p).getD (p.length - 1) 0).toNat 0 = 2)) (h4 : ¬ lnB xb ms (ats xs p) < 0) : lnR xs xb ks ms p = (p.getD (lnB xb ms (ats xs p)).toNat 0, true, 0) := by
  unfold lnR
  rw [if_neg (lnR_n h), if_neg h2, if_neg h3, if_neg h4]
theorem last_eq (hA : A = ats xs p) : ((A.length : Int) - 1).toNat = p.length - 1 := by rw [hA, ats_len]; omega
theorem lnV_14 (hA : A = ats xs p) (h : fitB xs xb ks ms = true ∧ ¬ (p.length : Int) < 2) (h2 : (-1 : Int) ∉ A) (h3 : ¬ ms.getD (A.getD (Int.toNat 0) 0).toNat 0 = 1 ∨ ¬ ms.getD (A.getD ((A.length : Int) - 1).toNat 0).toNat 0 = 2) : Value.tuple #[vi 0, .bool false, vi 14] = lnV (lnR xs xb ks ms p) := by
  rw [last_eq hA] at h3
  subst hA
  rw [lnR_14 h h2 h3]; rfl
theorem lnV_a (hA : A = ats xs p) (h : fitB xs xb ks ms = true ∧ ¬ (p.length : Int) < 2) (h2 : (-1 : Int) ∉ A) (h3 : ms.getD (A.getD (Int.toNat 0) 0).toNat 0 = 1 ∧ ms.getD (A.getD ((A.length : Int) - 1).toNat 0).toNat 0 = 2) (h4 : lnB xb ms A < 0) : Value.tuple #[vi (p.getD (lnH ms A).toNat 0), .bool false, vi 0] = lnV (lnR xs xb ks ms p) := by
  rw [last_eq hA] at h3
  subst hA
  rw [lnR_a h h2 (by rintro (h5 | h5); exact h5 h3.1; exact h5 h3.2) h4]; rfl
theorem lnV_b (hA : A = ats xs p) (h : fitB xs xb ks ms = true ∧ ¬ (p.length : Int) < 2) (h2 : (-1 : Int) ∉ A) (h3 : ms.getD (A.getD (Int.toNat 0) 0).toNat 0 = 1 ∧ ms.getD (A.getD ((A.length : Int) - 1).toNat 0).toNat 0 = 2) (h4 : ¬ lnB xb ms A < 0) : Value.tuple #[vi (p.getD (lnB xb ms A).toNat 0), .bool true, vi 0] = lnV (lnR xs xb ks ms p) := by
  rw [last_eq hA] at h3
  subst hA
  rw [lnR_b h h2 (by rintro (h5 | h5); exact h5 h3.1; exact h5 h3.2) h4]; rfl
end
end Go.Fw.Hu
end

section
/- hunt: the examples. -/
namespace Go.Fw.Hu
def dg (b : UInt8) : List UInt8 := b :: List.replicate 15 0
def lvX : List Int := [0, 1, 4, 3, 5, 7]
def lvB : List Bool := [true, true, true, true, true, true]
def lvK : List (List UInt8) := [dg 1, dg 2, dg 3, dg 4, dg 5, dg 6]
def lvK2 : List (List UInt8) := [dg 1, dg 2, dg 3, dg 2, dg 5, dg 6]
def lvZ : List Int := [0, 0, 0, 0, 0, 0]
def lvD : List Bool := [false, false, false, true, false, true]
def lvD2 : List Bool := [false, true, false, true, false, false]
def lvG : List Int := [1, 0, 0, 0, 0, 0]
def lvH : List Int := [1, 0, 0, 0, 0, 2]
def lvW : List Int := [2, 0, 0, 0, 0, 0]
theorem lvX_rng : ∀ x ∈ lvX, -9223372036854775808 ≤ x ∧ x ≤ 9223372036854775807 := by decide
theorem lv_new : newK lvX lvB lvK = (lvK, lvZ, 0) := by decide +kernel
theorem lv_nx : nxS lvX lvB lvK lvZ = 0 ∧ nxO lvX lvB lvK lvZ = true ∧ kE lvX lvB lvK lvZ = 0 := by decide +kernel
theorem lv_op : (opnL lvX lvB lvK lvZ).length = 6 := by decide +kernel
theorem lv_r1 : runA lvX lvB lvK lvD = [0, 1, 4, 3, 5] ∧ runF lvX lvB lvK lvD = [3] ∧ runE lvX lvB lvK lvD = 0 := by decide +kernel
theorem lv_t1 : telK lvX lvB lvK lvZ 0 true = (lvK, lvW, 0) := by decide +kernel
theorem lv_dn : dnB lvX lvB lvK lvW = true ∧ kE lvX lvB lvK lvW = 0 := by decide +kernel
theorem lv_fd : fndL lvX lvB lvK lvW = [0] := by decide +kernel
theorem lv_t2 : telK lvX lvB lvK lvZ 0 false = (lvK, lvG, 0) := by decide +kernel
theorem lv_t3 : telK lvX lvB lvK lvG 7 true = (lvK, lvH, 0) := by decide +kernel
theorem lv_t4 : telK lvX lvB lvK lvG 0 true = ([], [], 14) := by decide +kernel
theorem lv_nd : ndL lvX lvB lvK lvH = [0, 7] ∧ kE lvX lvB lvK lvH = 0 := by decide +kernel
theorem lv_r2 : runA lvX lvB lvK2 lvD2 = [0, 1, 4] ∧ runF lvX lvB lvK2 lvD2 = [1] ∧ runE lvX lvB lvK2 lvD2 = 0 := by decide +kernel
end Go.Fw.Hu
namespace Go.Fw.Hu
theorem lv16 {l : List (List UInt8)} (h : ∀ x ∈ l, x.length = 16) : ∀ c ∈ l.map (fun x => x.map vb), c.length = 16 := fun c hc => by
  obtain ⟨x, hx, rfl⟩ := List.mem_map.1 hc
  rw [List.length_map, h x hx]
theorem lv1c {l : List (List UInt8)} : ∀ c ∈ l.map (fun x => x.map vb), ∀ v ∈ c, v.oneCell' = true := fun c hc v hv => by
  obtain ⟨x, _, rfl⟩ := List.mem_map.1 hc
  obtain ⟨b, _, rfl⟩ := List.mem_map.1 hv
  rfl
end Go.Fw.Hu
end

section
/- hunt: what the laws make their inputs of. -/
namespace Go.Fw.Hu
open Gu
def dgI (k : Int) : List UInt8 := ofb (k + 1) :: List.replicate 15 0
def kyl (m : List Int) : Nat → List (List UInt8)
  | 0 => []
  | k + 1 => kyl m k ++ [if atN m k 16 < k ∧ atN m k 16 < 5 then (kyl m k).getD (atN m k 16).toNat [] else dgI k]
theorem kyl_len (m : List Int) : ∀ k, (kyl m k).length = k
  | 0 => rfl
  | k + 1 => by rw [kyl, List.length_append, kyl_len m k]; rfl
theorem dgI_16 (k : Int) : (dgI k).length = 16 := by simp [dgI]
theorem kyl_16 (m : List Int) : ∀ k, ∀ x ∈ kyl m k, x.length = 16
  | 0, x, h => by cases h
  | k + 1, x, h => by
    rw [kyl] at h
    rcases List.mem_append.1 h with h | h
    · exact kyl_16 m k x h
    · rw [List.mem_singleton.1 h]
      split
      · rename_i hc
        have := (atN_range (l := m) (i := k) (m := 16) (by decide)).1
        have hl : (atN m k 16).toNat < (kyl m k).length := by rw [kyl_len]; omega
        rw [List.getD_eq_getElem?_getD, List.getElem?_eq_getElem hl]
        exact kyl_16 m k _ (List.getElem_mem hl)
      · exact dgI_16 k
theorem kyl_t {m : List Int} {i : Int} (hi : 0 ≤ i) (h : atN m i 16 < i ∧ atN m i 16 < 5) : kyl m (i + 1).toNat = kyl m i.toNat ++ [(kyl m i.toNat).getD (atN m i 16).toNat []] := by
  rw [show (i + 1).toNat = i.toNat + 1 by omega, kyl, show ((i.toNat : Nat) : Int) = i by omega, if_pos h]
theorem kyl_f {m : List Int} {i : Int} (hi : 0 ≤ i) (h : ¬ (atN m i 16 < i ∧ atN m i 16 < 5)) : kyl m (i + 1).toNat = kyl m i.toNat ++ [dgI i] := by
  rw [show (i + 1).toNat = i.toNat + 1 by omega, kyl, show ((i.toNat : Nat) : Int) = i by omega, if_neg h]
def truB (l : List Int) (ks : List (List UInt8)) (i : Nat) : Bool := decide (atN l (((ks.getD i []).getD 0 0).toNat : Int) 3 = 1)
def tru (l : List Int) (ks : List (List UInt8)) (i : Nat) : List Bool := (List.range i).map (truB l ks)
theorem tru_len (l : List Int) (ks : List (List UInt8)) (i : Nat) : (tru l ks i).length = i := by simp [tru]
theorem tru_succ (l : List Int) (ks : List (List UInt8)) (i : Nat) : tru l ks (i + 1) = tru l ks i ++ [truB l ks i] := by simp [tru, List.range_succ]
/-! ### some classes told -/
abbrev KP := List (List UInt8) × List Int
def mkS (xs : List Int) (xb : List Bool) (ks : List (List UInt8)) (bad : List Bool) (l : List Int) : Nat → KP
  | 0 => ((newK xs xb ks).1, (newK xs xb ks).2.1)
  | j + 1 => if xb.getD j false = true ∧ atN l j 2 = 1 ∧ (telK xs xb (mkS xs xb ks bad l j).1 (mkS xs xb ks bad l j).2 (xs.getD j 0) (bad.getD j false)).2.2 = 0 then
      ((telK xs xb (mkS xs xb ks bad l j).1 (mkS xs xb ks bad l j).2 (xs.getD j 0) (bad.getD j false)).1, (telK xs xb (mkS xs xb ks bad l j).1 (mkS xs xb ks bad l j).2 (xs.getD j 0) (bad.getD j false)).2.1) else mkS xs xb ks bad l j
def mkN (xs : List Int) (xb : List Bool) (ks : List (List UInt8)) (bad : List Bool) : Nat := if (newK xs xb ks).2.2 = 0 then min xs.length bad.length else 0
def mkK (xs : List Int) (xb : List Bool) (ks : List (List UInt8)) (bad : List Bool) (l : List Int) : KP := mkS xs xb ks bad l (mkN xs xb ks bad)
section
variable {xs : List Int} {xb : List Bool} {ks : List (List UInt8)} {bad : List Bool} {l : List Int}
end
end Go.Fw.Hu
namespace Go.Fw.Hu
theorem not_or {i : Int} {xb : List Bool} (h : ¬ i < 0 ∧ xb.getD i.toNat false = true) : ¬ (i < 0 ∨ xb.getD i.toNat false = false) := by
  rintro (h1 | h1)
  · exact h.1 h1
  · rw [h.2] at h1; cases h1
end Go.Fw.Hu
namespace Go.Fw.Hu
open Gu
end Go.Fw.Hu
end

section
/- hunt: the number of ones, as the library reckons it, is the number of ones. -/
namespace Go.Fw.Hu
open Gu
theorem and_blk (k a c b d : Nat) (ha : a < 2 ^ k) (hc : c < 2 ^ k) : (2 ^ k * b + a) &&& (2 ^ k * d + c) = 2 ^ k * (b &&& d) + (a &&& c) := by
  apply Nat.eq_of_testBit_eq
  intro i
  rw [Nat.testBit_and, Nat.testBit_two_pow_mul_add _ ha, Nat.testBit_two_pow_mul_add _ hc, Nat.testBit_two_pow_mul_add _ (Nat.lt_of_le_of_lt Nat.and_le_left ha)]
  split <;> rw [Nat.testBit_and]
def mpB (f : Nat → Nat) : Nat → Nat → Nat
  | 0, _ => 0
  | n + 1, x => 256 * mpB f n (x / 256) + f (x % 256)
def rpt (m : Nat) : Nat → Nat
  | 0 => 0
  | n + 1 => 256 * rpt m n + m
def q1 (b : Nat) : Nat := (b / 2 &&& 85) + (b &&& 85)
def q2 (b : Nat) : Nat := (b / 4 &&& 51) + (b &&& 51)
def q3 (b : Nat) : Nat := (b / 16 + b) % 16
theorem blk1 : ∀ b : Fin 256, ∀ c : Fin 2, ((b.val / 2 + 128 * c.val) &&& 85) = (b.val / 2 &&& 85) := by decide +kernel
theorem blk2 : ∀ b : Fin 256, ∀ c : Fin 4, ((b.val / 4 + 64 * c.val) &&& 51) = (b.val / 4 &&& 51) := by decide +kernel
theorem st1 : ∀ n x, (x / 2 &&& rpt 85 n) + (x &&& rpt 85 n) = mpB q1 n x
  | 0, x => by simp [rpt, mpB]
  | n + 1, x => by
    have ih := st1 n (x / 256)
    have hb : x % 256 < 256 := Nat.mod_lt _ (by decide)
    have hc : x / 256 % 2 < 2 := Nat.mod_lt _ (by decide)
    have e1 : x = 2 ^ 8 * (x / 256) + x % 256 := by omega
    have e2 : x / 2 = 2 ^ 8 * (x / 256 / 2) + (x % 256 / 2 + 128 * (x / 256 % 2)) := by omega
    rw [e2]
    have e3 : x &&& rpt 85 (n + 1) = 2 ^ 8 * (x / 256 &&& rpt 85 n) + (x % 256 &&& 85) := by
      conv => lhs; rw [e1]
      exact and_blk 8 _ _ _ _ (by omega) (by decide)
    have hk := blk1 ⟨_, hb⟩ ⟨_, hc⟩
    simp only at hk
    rw [e3, rpt, and_blk 8 _ _ _ _ (by omega) (by decide), hk, mpB, ← ih, q1]
    omega
theorem st2 : ∀ n x, (x / 4 &&& rpt 51 n) + (x &&& rpt 51 n) = mpB q2 n x
  | 0, x => by simp [rpt, mpB]
  | n + 1, x => by
    have ih := st2 n (x / 256)
    have hb : x % 256 < 256 := Nat.mod_lt _ (by decide)
    have hc : x / 256 % 4 < 4 := Nat.mod_lt _ (by decide)
    have e1 : x = 2 ^ 8 * (x / 256) + x % 256 := by omega
    have e2 : x / 4 = 2 ^ 8 * (x / 256 / 4) + (x % 256 / 4 + 64 * (x / 256 % 4)) := by omega
    rw [e2]
    have e3 : x &&& rpt 51 (n + 1) = 2 ^ 8 * (x / 256 &&& rpt 51 n) + (x % 256 &&& 51) := by
      conv => lhs; rw [e1]
      exact and_blk 8 _ _ _ _ (by omega) (by decide)
    have hk := blk2 ⟨_, hb⟩ ⟨_, hc⟩
    simp only at hk
    rw [e3, rpt, and_blk 8 _ _ _ _ (by omega) (by decide), hk, mpB, ← ih, q2]
    omega
theorem mpB_div {g : Nat → Nat} (hg : ∀ b, b < 256 → g b < 256) (n x : Nat) : mpB g (n + 1) x / 256 = mpB g n (x / 256) ∧ mpB g (n + 1) x % 256 = g (x % 256) := by
  have := hg (x % 256) (Nat.mod_lt _ (by decide))
  rw [mpB]
  omega
theorem mpB_comp {f g : Nat → Nat} (hg : ∀ b, b < 256 → g b < 256) : ∀ n x, mpB f n (mpB g n x) = mpB (fun b => f (g b)) n x
  | 0, _ => rfl
  | n + 1, x => by
    obtain ⟨h1, h2⟩ := mpB_div hg n x
    rw [mpB, h1, h2, mpB_comp hg n, mpB]
theorem mpB_nib {g : Nat → Nat} (hg : ∀ b, b < 256 → g b % 16 ≤ 4) : ∀ n x, mpB g n x % 16 ≤ 4
  | 0, _ => by simp [mpB]
  | n + 1, x => by
    have := hg (x % 256) (Nat.mod_lt _ (by decide))
    rw [mpB]
    omega
theorem st3 {g : Nat → Nat} (hg : ∀ b, b < 256 → g b ≤ 68 ∧ g b % 16 ≤ 4) : ∀ n x, ((mpB g n x / 16 + mpB g n x) &&& rpt 15 n) = mpB (fun b => q3 (g b)) n x
  | 0, x => by simp [rpt, mpB]
  | n + 1, x => by
    have ih := st3 hg n (x / 256)
    obtain ⟨h1, h2⟩ := mpB_div (fun b hb => by have := hg b hb; omega) n x
    have hb := hg (x % 256) (Nat.mod_lt _ (by decide))
    have hn := mpB_nib (fun b hb => (hg b hb).2) n (x / 256)
    have e : mpB g (n + 1) x / 16 + mpB g (n + 1) x = 2 ^ 8 * (mpB g n (x / 256) / 16 + mpB g n (x / 256)) + (g (x % 256) / 16 + 16 * (mpB g n (x / 256) % 16) + g (x % 256)) := by
      have e0 : mpB g (n + 1) x = 256 * mpB g n (x / 256) + g (x % 256) := rfl
      rw [e0]
      clear e0 h1 h2 ih
      omega
    rw [e, rpt, and_blk 8 _ _ _ _ (by omega) (by decide), ih, mpB, show (15 : Nat) = 2 ^ 4 - 1 from rfl, Nat.and_two_pow_sub_one_eq_mod, q3]
    omega
def pcN : Nat → Nat → Nat
  | 0, _ => 0
  | n + 1, x => x % 2 + pcN n (x / 2)
theorem q_rng : ∀ b : Fin 256, q1 b.val < 256 ∧ q2 (q1 b.val) ≤ 68 ∧ q2 (q1 b.val) % 16 ≤ 4 ∧ q3 (q2 (q1 b.val)) = pcN 8 b.val ∧ pcN 8 b.val ≤ 8 := by decide +kernel
theorem swar (x : Nat) : (((mpB q2 8 (mpB q1 8 x)) / 16 + mpB q2 8 (mpB q1 8 x)) &&& rpt 15 8) = mpB (pcN 8) 8 x := by
  rw [mpB_comp (fun b hb => (q_rng ⟨b, hb⟩).1), st3 (fun b hb => ⟨(q_rng ⟨b, hb⟩).2.1, (q_rng ⟨b, hb⟩).2.2.1⟩)]
  have : ∀ n y, mpB (fun b => q3 (q2 (q1 b))) n y = mpB (pcN 8) n y := by
    intro n
    induction n with
    | zero => intro y; rfl
    | succ n ih =>
      intro y
      rw [mpB, mpB, ih, (q_rng ⟨y % 256, Nat.mod_lt _ (by decide)⟩).2.2.2.1]
  exact this 8 x
/-- The sum over the bytes. -/
def smB : Nat → Nat → Nat
  | 0, _ => 0
  | n + 1, x => pcN 8 (x % 256) + smB n (x / 256)
theorem pcN_mod8 (x : Nat) : pcN 8 (x % 256) = pcN 8 x := by
  simp only [pcN]
  omega
theorem pcN_add : ∀ m n x, pcN (m + n) x = pcN m x + pcN n (x / 2 ^ m)
  | 0, n, x => by rw [Nat.zero_add, pcN, Nat.pow_zero, Nat.div_one, Nat.zero_add]
  | m + 1, n, x => by
    rw [show m + 1 + n = (m + n) + 1 by omega, pcN, pcN_add m n, pcN, Nat.pow_succ, Nat.mul_comm, Nat.div_div_eq_div_mul, Nat.add_assoc]
theorem smB_pc : ∀ n x, smB n x = pcN (8 * n) x
  | 0, _ => rfl
  | n + 1, x => by
    rw [smB, smB_pc n, pcN_mod8, show 8 * (n + 1) = 8 + 8 * n by omega, pcN_add]
theorem pcN_succ (n x : Nat) : pcN (n + 1) x = pcN n x + x / 2 ^ n % 2 := by
  rw [pcN_add]
  simp [pcN]
theorem div_of {a k U V : Nat} (h : a = k * U + V) (hV : V < k) : a / k = U := by
  subst h
  rw [Nat.mul_add_div (by omega), Nat.div_eq_of_lt hV, Nat.add_zero]
theorem mod_of {c W S : Nat} (h : c = 256 * W + S) (hS : S < 128) : c % 128 = S := by omega
/-- The last steps: the bytes are added up. -/
theorem fold_b {h0 h1 h2 h3 h4 h5 h6 h7 y a b c : Nat} (e0 : h0 ≤ 8) (e1 : h1 ≤ 8) (e2 : h2 ≤ 8) (e3 : h3 ≤ 8) (e4 : h4 ≤ 8) (e5 : h5 ≤ 8) (e6 : h6 ≤ 8) (e7 : h7 ≤ 8)
    (hy : y = 256 * (256 * (256 * (256 * (256 * (256 * (256 * (256 * 0 + h7) + h6) + h5) + h4) + h3) + h2) + h1) + h0)
    (ha : a = y + y / 256) (hb : b = a + a / 65536) (hc : c = b + b / 4294967296) : a < 18446744073709551616 ∧ b < 18446744073709551616 ∧ c < 18446744073709551616 ∧ c % 128 = h0 + (h1 + (h2 + (h3 + (h4 + (h5 + (h6 + (h7 + 0))))))) := by
  have a0 := div_of hy (by clear hy ha hb hc; omega)
  rw [a0] at ha
  have a1 : a = 65536 * (1099511627776 * h7 + 4294967296 * (h6 + h7) + 16777216 * (h5 + h6) + 65536 * (h4 + h5) + 256 * (h3 + h4) + (h2 + h3)) + (256 * (h1 + h2) + (h0 + h1)) := by rw [ha, hy]; clear a0 ha hb hc hy; omega
  have b0 := div_of a1 (by clear hy ha hb hc a0 a1; omega)
  rw [b0] at hb
  have b1 : b = 4294967296 * (16777216 * h7 + 65536 * (h6 + h7) + 256 * (h5 + h6 + h7) + (h4 + h5 + h6 + h7)) + (16777216 * (h3 + h4 + h5 + h6) + 65536 * (h2 + h3 + h4 + h5) + 256 * (h1 + h2 + h3 + h4) + (h0 + h1 + h2 + h3)) := by rw [hb, a1]; clear a0 b0 ha hb hc hy a1; omega
  have c0 := div_of b1 (by clear hy ha hb hc a0 a1 b0 b1; omega)
  rw [c0] at hc
  have c1 : c = 256 * (16777216 * (16777216 * h7 + 65536 * (h6 + h7) + 256 * (h5 + h6 + h7) + (h4 + h5 + h6 + h7)) + (65536 * (h3 + h4 + h5 + h6 + h7) + 256 * (h2 + h3 + h4 + h5 + h6 + h7) + (h1 + h2 + h3 + h4 + h5 + h6 + h7))) + (h0 + (h1 + (h2 + (h3 + (h4 + (h5 + (h6 + (h7 + 0)))))))) := by rw [hc, b1]; clear a0 b0 c0 ha hb hc hy a1 b1; omega
  refine ⟨?_, ?_, ?_, mod_of c1 (by clear hy ha hb hc a0 a1 b0 b1 c0 c1; omega)⟩
  · clear a0 b0 c0 ha hb hc hy b1 c1; omega
  · clear a0 b0 c0 ha hb hc hy a1 c1; omega
  · clear a0 b0 c0 ha hb hc hy a1 b1; omega
end Go.Fw.Hu
end

section
/- hunt: the library's number of ones is the reference's size. -/
namespace Go.Fw.Hu
open Gu
theorem wrap_small {n : Nat} (h : n < 9223372036854775808) : IntKind.i64.wrap (n : Int) = n := by
  simp [IntKind.wrap, IntKind.bits, IntKind.signed]
  omega
theorem iand_m1 (a : Int) : iand a 1 = a % 2 := by
  unfold iand
  have h : (BitVec.ofInt 64 a &&& BitVec.ofInt 64 1).toNat = (a % 2).toNat := by
    rw [BitVec.toNat_and, BitVec.toNat_ofInt, BitVec.toNat_ofInt, show ((1 : Int) % ((2 ^ 64 : Nat) : Int)).toNat = 1 from rfl, Nat.and_one_is_mod]
    omega
  rw [h, wrap_small (by omega)]
  omega
theorem sgn_bv (z : UInt64) : BitVec.ofInt 64 (sgn z) = BitVec.ofNat 64 z.toNat := by
  apply BitVec.eq_of_toNat_eq
  rw [BitVec.toNat_ofInt, BitVec.toNat_ofNat]
  have := z.toNat_lt
  unfold sgn
  split <;> omega
theorem iand_127 (z : UInt64) : iand (sgn z) 127 = ((z.toNat % 128 : Nat) : Int) := by
  unfold iand
  have h : (BitVec.ofInt 64 (sgn z) &&& BitVec.ofInt 64 127).toNat = z.toNat % 128 := by
    rw [sgn_bv, BitVec.toNat_and, BitVec.toNat_ofNat, BitVec.toNat_ofInt, show ((127 : Int) % ((2 ^ 64 : Nat) : Int)).toNat = 2 ^ 7 - 1 from rfl, Nat.and_two_pow_sub_one_eq_mod]
    have := z.toNat_lt
    omega
  rw [h, wrap_small (by omega)]
theorem shr_nat (x : UInt64) (k : Nat) (hk : k ≤ 64) : (shr x (k : Int)).toNat = x.toNat / 2 ^ k := by
  unfold shr
  rw [Int.toNat_natCast, Nat.min_eq_left hk, UInt64.toNat_ofNat', Nat.mod_eq_of_lt]
  exact Nat.lt_of_le_of_lt (Nat.div_le_self _ _) x.toNat_lt
theorem mpB_le {g : Nat → Nat} {c : Nat} (hg : ∀ b, b < 256 → g b ≤ c) : ∀ n x, mpB g n x ≤ c * rpt 1 n
  | 0, _ => Nat.zero_le _
  | n + 1, x => by
    have h1 := hg (x % 256) (Nat.mod_lt _ (by decide))
    have h2 := mpB_le hg n (x / 256)
    rw [mpB, rpt, Nat.mul_add, Nat.mul_one, Nat.mul_left_comm]
    omega
theorem rpt18 : rpt 1 8 = 72340172838076673 := rfl
theorem o1_nat (x : UInt64) : (o1 x).toNat = mpB q1 8 x.toNat := by
  unfold o1
  have h := mpB_le (g := q1) (c := 255) (fun b hb => by have := (q_rng ⟨b, hb⟩).1; simp only at this; omega) 8 x.toNat
  rw [rpt18] at h
  rw [UInt64.toNat_add, UInt64.toNat_and, UInt64.toNat_and, show (shr x 1).toNat = x.toNat / 2 ^ 1 from shr_nat x 1 (by decide), show (6148914691236517205 : UInt64).toNat = rpt 85 8 from rfl, show (2 : Nat) ^ 1 = 2 from rfl, st1, Nat.mod_eq_of_lt]
  omega
theorem q2_le : ∀ b : Fin 256, q2 b.val ≤ 102 := by decide +kernel
theorem o2_nat (x : UInt64) : (o2 x).toNat = mpB q2 8 x.toNat := by
  unfold o2
  have h := mpB_le (g := q2) (c := 102) (fun b hb => q2_le ⟨b, hb⟩) 8 x.toNat
  rw [rpt18] at h
  rw [UInt64.toNat_add, UInt64.toNat_and, UInt64.toNat_and, show (shr x 2).toNat = x.toNat / 2 ^ 2 from shr_nat x 2 (by decide), show (3689348814741910323 : UInt64).toNat = rpt 51 8 from rfl, show (2 : Nat) ^ 2 = 4 from rfl, st2, Nat.mod_eq_of_lt]
  omega
theorem o3_nat (x : UInt64) : (o3 (o2 (o1 x))).toNat = mpB (pcN 8) 8 x.toNat := by
  have h := mpB_le (g := q2) (c := 102) (fun b hb => q2_le ⟨b, hb⟩) 8 (mpB q1 8 x.toNat)
  rw [rpt18] at h
  have hz : (o2 (o1 x)).toNat = mpB q2 8 (mpB q1 8 x.toNat) := by rw [o2_nat, o1_nat]
  unfold o3
  rw [UInt64.toNat_and, UInt64.toNat_add, show (shr (o2 (o1 x)) 4).toNat = (o2 (o1 x)).toNat / 2 ^ 4 from shr_nat _ 4 (by decide), hz, show (1085102592571150095 : UInt64).toNat = rpt 15 8 from rfl, show (2 : Nat) ^ 4 = 16 from rfl, Nat.mod_eq_of_lt, swar]
  omega
theorem o4_nat (x : UInt64) (k : Nat) (hk : k ≤ 64) (h : x.toNat + x.toNat / 2 ^ k < 18446744073709551616) : (o4 x (k : Int)).toNat = x.toNat + x.toNat / 2 ^ k := by
  unfold o4
  rw [UInt64.toNat_add, shr_nat x k hk, Nat.mod_eq_of_lt (by simpa using h)]
theorem ocv_nat (x : UInt64) : ocv x = ((pcN 64 x.toNat : Nat) : Int) := by
  have hr : ∀ y, pcN 8 (y % 256) ≤ 8 := fun y => (q_rng ⟨y % 256, Nat.mod_lt _ (by decide)⟩).2.2.2.2
  obtain ⟨h1, h2, h3, h4⟩ := fold_b (y := mpB (pcN 8) 8 x.toNat) (hr x.toNat) (hr (x.toNat / 256)) (hr (x.toNat / 256 / 256)) (hr (x.toNat / 256 / 256 / 256)) (hr (x.toNat / 256 / 256 / 256 / 256)) (hr (x.toNat / 256 / 256 / 256 / 256 / 256)) (hr (x.toNat / 256 / 256 / 256 / 256 / 256 / 256)) (hr (x.toNat / 256 / 256 / 256 / 256 / 256 / 256 / 256)) rfl rfl rfl rfl
  have e1 := o4_nat (o3 (o2 (o1 x))) 8 (by decide) (by rw [o3_nat]; exact h1)
  rw [o3_nat] at e1
  have e2 := o4_nat (o4 (o3 (o2 (o1 x))) (8 : Nat)) 16 (by decide) (by rw [e1]; exact h2)
  rw [e1] at e2
  have e3 := o4_nat (o4 (o4 (o3 (o2 (o1 x))) (8 : Nat)) (16 : Nat)) 32 (by decide) (by rw [e2]; exact h3)
  rw [e2] at e3
  have e4 : smB 8 x.toNat = pcN 64 x.toNat := smB_pc 8 _
  rw [← e4]
  show iand (sgn (o4 (o4 (o4 (o3 (o2 (o1 x))) (8 : Nat)) (16 : Nat)) (32 : Nat))) 127 = _
  rw [iand_127, e3]
  exact congrArg _ h4
theorem pc_bit (s : Int) (k : Nat) (hk : k < 64) : ((((s % 18446744073709551616).toNat / 2 ^ k % 2 : Nat)) : Int) = s / 2 ^ k % 2 := by
  have hm : 0 ≤ s % 18446744073709551616 := Int.emod_nonneg _ (by decide)
  obtain ⟨m, hm2⟩ : ∃ m : Nat, (m : Int) = s % 18446744073709551616 := ⟨(s % 18446744073709551616).toNat, by omega⟩
  have hs : s = (m : Int) + 18446744073709551616 * (s / 18446744073709551616) := by omega
  rw [← hm2, Int.toNat_natCast]
  obtain ⟨q, hq⟩ : ∃ q, q = s / 18446744073709551616 := ⟨_, rfl⟩
  rw [← hq] at hs
  have hp : (18446744073709551616 : Int) = 2 ^ k * (2 * 2 ^ (63 - k)) := by
    have : (2 : Int) ^ 64 = 2 ^ k * (2 * 2 ^ (63 - k)) := by
      rw [← Int.pow_succ', ← Int.pow_add, show k + (63 - k + 1) = 64 by omega]
    rw [← this]; rfl
  have h2 : s / 2 ^ k = (m : Int) / 2 ^ k + 2 * (2 ^ (63 - k) * q) := by
    rw [hs, hp, Int.mul_assoc, Int.add_mul_ediv_left _ _ (by exact Int.ne_of_gt (Int.pow_pos (by decide))), Int.mul_assoc]
  rw [h2, Int.natCast_emod, Int.natCast_ediv, Int.natCast_pow]
  show (m : Int) / 2 ^ k % 2 = _
  omega
theorem size_pc (s : Int) : ∀ k : Nat, k ≤ 64 → size s k = ((pcN k (s % 18446744073709551616).toNat : Nat) : Int)
  | 0, _ => rfl
  | k + 1, hk => by
    have ih := size_pc s k (by omega)
    have hb := pc_bit s k (by omega)
    rw [size, pcN_succ, ih]
    have e : bitB s (k : Int) = decide (s / 2 ^ k % 2 = 1) := by
      unfold bitB
      rw [iand_m1, Int.toNat_natCast]
    rw [e]
    by_cases h : s / 2 ^ k % 2 = 1
    · rw [decide_eq_true h, if_pos rfl]
      omega
    · rw [decide_eq_false h, if_neg (by decide)]
      omega
/-- The library's number of ones is the size. -/
theorem sz_eq (s : Int) : szF s = size s 64 := by
  unfold szF
  rw [ocv_nat, size_pc s 64 (Nat.le_refl _)]
  have : (ofq s).toNat = (s % 18446744073709551616).toNat := by have := ofq_toNat s; omega
  rw [this]
end Go.Fw.Hu
end

section
/- hunt: the reference's classes, found, next. -/
namespace Go.Fw.Hu
open Gu
def wnt (asked : Bool) (m : Int) : Bool := (!decide (m = 0)) == asked
def rff (xb : List Bool) (ks : List (List UInt8)) (ms : List Int) (asked : Bool) (i j : Nat) : Bool := (xb.getD i false && ((!decide (ms.getD i 0 = 0)) == asked)) && !erl xb ks j (ks.getD i [])
def rgj (xs : List Int) (xb : List Bool) (ks : List (List UInt8)) (ms : List Int) (i t : Nat) : Bool := (xb.getD t false && decide (ks.getD t [] = ks.getD i [])) && !cov xs xb ms t
def rgg (xs : List Int) (xb : List Bool) (ks : List (List UInt8)) (ms : List Int) (i j : Nat) : Bool := (List.range j).any (rgj xs xb ks ms i)
section
variable {xs : List Int} {xb : List Bool} {ks : List (List UInt8)} {ms : List Int} {asked : Bool}
theorem same_mk (h : fitB xs xb ks ms = true) {i j : Nat} (hi : i < xs.length) (hj : j < xs.length) (h1 : xb.getD i false = true) (h2 : xb.getD j false = true) (h3 : ks.getD i [] = ks.getD j []) : ms.getD i 0 = ms.getD j 0 := by
  have hs := (fit_use h).2.2.2.2.2
  have key : ∀ i j, i < xs.length → j < i → xb.getD i false = true → xb.getD j false = true → ks.getD i [] = ks.getD j [] → ms.getD i 0 = ms.getD j 0 := fun i j hi hj h1 h2 h3 => by
    have := hs i j hi hj
    unfold sameI at this
    rw [h1, h2, decide_eq_true h3] at this
    simpa using this
  rcases Nat.lt_trichotomy i j with hl | rfl | hl
  · exact (key j i hj hl h2 h1 h3.symm).symm
  · rfl
  · exact key i j hi hl h1 h2 h3
/-! ### found -/
def rfd (xs : List Int) (xb : List Bool) (ms : List Int) (x : Int) (j : Nat) : Bool := (!xb.getD j false || !blw (xs.getD j 0) x) || decide (ms.getD j 0 = 1)
/-! ### next -/
def bk (xs : List Int) (xb : List Bool) (ms : List Int) (k : Nat) : Int := bst xs ms ((List.range k).filter (fre xs xb ms))
theorem bk_t {k : Nat} (h : fre xs xb ms k = true) : bk xs xb ms (k + 1) = bsN xs ms (bk xs xb ms k) k := by
  unfold bk bst
  rw [List.range_succ, List.filter_append, List.filter_cons_of_pos h, List.foldl_append]
  rfl
theorem bk_f {k : Nat} (h : fre xs xb ms k = false) : bk xs xb ms (k + 1) = bk xs xb ms k := by
  unfold bk bst
  rw [List.range_succ, List.filter_append, List.filter_cons_of_neg (by rw [h]; decide)]
  simp
/-- No set that may be asked is smaller than s; none before i is as small. -/
def nxA (xs : List Int) (xb : List Bool) (ms : List Int) (s : Int) : Prop := ∀ t, t < xs.length → fre xs xb ms t = true → ms.getD t 0 = 0 → s ≤ size (xs.getD t 0) 64
def nxC (xs : List Int) (xb : List Bool) (ms : List Int) (s : Int) (i : Nat) : Prop := ∀ t, t < i → fre xs xb ms t = true → ms.getD t 0 = 0 → size (xs.getD t 0) 64 ≠ s
end
end Go.Fw.Hu
namespace Go.Fw.Hu
end Go.Fw.Hu
end

section
/- hunt: the least sets above one; paths. -/
namespace Go.Fw.Hu.Ab
open Go.Fw.Gu (wi extr extr_len extr_mem extr_nodup extr_iff take_snoc' any_succ getD_mem' ixF fltr R64)
abbrev iw (a b : Int) : Bool := wi b a
/-- What Above strikes out. -/
def del (s y : Int) : Bool := decide (y = s) || !iw y s
def kept (s : Int) (xs : List Int) : List Int := xs.filter fun y => !del s y
/-- Where DeleteFunc stands: i kept among the first j. -/
structure Dst (s : Int) (xs ys : List Int) (i j : Int) : Prop where
  i0 : 0 ≤ i ∧ i < j ∧ j ≤ xs.length
  len : ys.length = xs.length
  head : ys.take i.toNat = kept s (xs.take j.toNat)
  tail : ys.drop j.toNat = xs.drop j.toNat
/-- The least sets above one. -/
def blw (xs : List Int) (s : Int) : List Int := extr (fun a b => iw b a) (kept s xs) (kept s xs).length
theorem kept_all {s : Int} {xs : List Int} (h : ∀ x ∈ xs, del s x = false) : kept s xs = xs := List.filter_eq_self.2 fun x hx => by rw [h x hx]; rfl
theorem Dst.start {s : Int} {xs : List Int} {i : Int} (hi : 0 ≤ i ∧ i < xs.length) (hp : del s (xs.getD i.toNat 0) = true) (hn : ∀ j, j < i.toNat → del s (xs.getD j 0) = false) : Dst s xs xs i (i + 1) := by
  refine ⟨by omega, rfl, ?_, rfl⟩
  rw [show (i + 1).toNat = i.toNat + 1 by omega, take_snoc' (by omega), kept, List.filter_append, List.filter_cons, if_neg (by rw [hp]; decide), List.filter_nil, List.append_nil]
  refine (kept_all (s := s) fun x hx => ?_).symm
  obtain ⟨j, hj, rfl⟩ := List.mem_iff_getElem.1 hx
  rw [List.length_take] at hj
  have := hn j (by omega)
  rw [List.getElem_take]
  rwa [List.getD_eq_getElem?_getD, List.getElem?_eq_getElem (by omega)] at this
theorem Dst.get {s : Int} {xs ys : List Int} {i j : Int} (h : Dst s xs ys i j) (hj : j < xs.length) : ys.getD j.toNat 0 = xs.getD j.toNat 0 := by
  have := congrArg (·[0]?) h.tail
  simp only [List.getElem?_drop, Nat.add_zero] at this
  rw [List.getD_eq_getElem?_getD, List.getD_eq_getElem?_getD, this]
theorem Dst.skip {s : Int} {xs ys : List Int} {i j : Int} (h : Dst s xs ys i j) (hj : j < xs.length) (hp : del s (ys.getD j.toNat 0) = true) : Dst s xs ys i (j + 1) := by
  have hg := h.get hj
  rw [hg] at hp
  have := h.i0
  refine ⟨by omega, h.len, ?_, ?_⟩
  · rw [h.head, show (j + 1).toNat = j.toNat + 1 by omega, take_snoc' (by omega)]
    unfold kept
    rw [List.filter_append, List.filter_cons, if_neg (by rw [hp]; decide), List.filter_nil, List.append_nil]
  · have := congrArg (List.drop 1) h.tail
    rwa [List.drop_drop, List.drop_drop, show j.toNat + 1 = (j + 1).toNat by omega] at this
theorem Dst.keep {s : Int} {xs ys : List Int} {i j : Int} (h : Dst s xs ys i j) (hj : j < xs.length) (hp : del s (ys.getD j.toNat 0) = false) : Dst s xs (ys.set i.toNat (ys.getD j.toNat 0)) (i + 1) (j + 1) := by
  have hg := h.get hj
  have h0 := h.i0
  have hl := h.len
  refine ⟨by omega, by rw [List.length_set]; exact hl, ?_, ?_⟩
  · rw [hg] at hp ⊢
    rw [show (i + 1).toNat = i.toNat + 1 by omega, show (j + 1).toNat = j.toNat + 1 by omega, take_snoc' (show j.toNat < xs.length by omega), List.take_set, List.take_add_one, List.getElem?_eq_getElem (by omega)]
    have hlt : (ys.take i.toNat).length = i.toNat := by rw [List.length_take]; omega
    rw [List.set_append_right _ _ (by omega), hlt, Nat.sub_self]
    simp only [Option.toList_some, List.set_cons_zero]
    rw [h.head]
    unfold kept
    rw [List.filter_append, List.filter_cons, if_pos (by rw [hp]; rfl), List.filter_nil]
  · have := congrArg (List.drop 1) h.tail
    rw [List.drop_drop, List.drop_drop, show j.toNat + 1 = (j + 1).toNat by omega] at this
    rw [List.drop_set_of_lt (by omega)]
    exact this
theorem Dst.done {s : Int} {xs ys : List Int} {i j : Int} (h : Dst s xs ys i j) (hj : ¬ j < xs.length) : ys.take i.toNat = kept s xs := by
  have := h.i0
  rw [h.head, List.take_of_length_le (by omega)]
/-- Another set lies between, among the first k. -/
def btw (xs : List Int) (s x : Int) (k : Nat) : Bool := (List.range k).any fun j => ((!decide (xs.getD j 0 = s) && iw (xs.getD j 0) s) && !decide (xs.getD j 0 = x)) && iw x (xs.getD j 0)
def rblw (xs : List Int) (s : Int) : Nat → List Int
  | 0 => []
  | k + 1 => if ((!decide (xs.getD k 0 = s) && iw (xs.getD k 0) s) && !decide (xs.getD k 0 ∈ rblw xs s k)) && !btw xs s (xs.getD k 0) xs.length then rblw xs s k ++ [xs.getD k 0] else rblw xs s k
end Go.Fw.Hu.Ab
namespace Go.Fw.Hu
open Gu
/-- How many sets lie above one and within another. -/
def mPa (xs : List Int) (to a : Int) : Nat := (xs.filter fun u => (wi a u && wi u to) && !decide (u = a)).length
def clo (xs : List Int) (s : Int) : Nat → Int
  | 0 => -1
  | k + 1 => if wi s (xs.getD k 0) then iand (clo xs s k) (xs.getD k 0) else clo xs s k
/-! ### the reference's Line -/
section
variable {xs : List Int} {ms A p : List Int}
end
end Go.Fw.Hu
end

section
/- hunt: what is found is guilty. -/
namespace Go.Fw.Hu
open Gu
/-! ### truths -/
def tmk (xb bad : List Bool) (i : Nat) : Int := if xb.getD i false then (if bad.getD i false then 2 else 1) else 0
def tms (xb bad : List Bool) (n : Nat) : List Int := (List.range n).map (tmk xb bad)
def gtL (xs : List Int) (xb : List Bool) (T : List Int) : Nat → List Int
  | 0 => []
  | k + 1 => if decide (T.getD k 0 = 2) && !cov xs xb T k then gtL xs xb T k ++ [xs.getD k 0] else gtL xs xb T k
def gty (xs : List Int) (xb bad : List Bool) : List Int := gtL xs xb (tms xb bad xs.length) xs.length
theorem tms_len (xb bad : List Bool) (n : Nat) : (tms xb bad n).length = n := by simp [tms]
theorem tms_succ (xb bad : List Bool) (n : Nat) : tms xb bad (n + 1) = tms xb bad n ++ [tmk xb bad n] := by simp [tms, List.range_succ]
theorem tms_get (xb bad : List Bool) {n i : Nat} (h : i < n) : (tms xb bad n).getD i 0 = tmk xb bad i := by
  unfold tms
  rw [List.getD_eq_getElem?_getD, List.getElem?_map, List.getElem?_range h]
  rfl
theorem tmk_2 {xb bad : List Bool} {i : Nat} (h : xb.getD i false = true) (h2 : bad.getD i false = true) : 2 = tmk xb bad i := by unfold tmk; rw [h, h2]; rfl
theorem tmk_1 {xb bad : List Bool} {i : Nat} (h : xb.getD i false = true) (h2 : bad.getD i false = false) : 1 = tmk xb bad i := by unfold tmk; rw [h, h2]; rfl
theorem tmk_0 {xb bad : List Bool} {i : Nat} (h : xb.getD i false = false) : 0 = tmk xb bad i := by unfold tmk; rw [h]; rfl
theorem tmk_rng (xb bad : List Bool) (i : Nat) : 0 ≤ tmk xb bad i ∧ tmk xb bad i ≤ 2 := by
  unfold tmk
  split
  · split <;> decide
  · decide
theorem tms_rng (xb bad : List Bool) (n : Nat) : ∀ x ∈ tms xb bad n, -9223372036854775808 ≤ x ∧ x ≤ 9223372036854775807 := fun x hx => by
  obtain ⟨i, _, rfl⟩ := List.mem_map.1 hx
  have := tmk_rng xb bad i
  omega
theorem gtL_len (xs : List Int) (xb : List Bool) (T : List Int) : ∀ k, (gtL xs xb T k).length ≤ k
  | 0 => Nat.le_refl _
  | k + 1 => by
    have := gtL_len xs xb T k
    unfold gtL
    split
    · simp; omega
    · omega
theorem gtL_mem {xs : List Int} {xb : List Bool} {T : List Int} : ∀ k, k ≤ xs.length → ∀ x ∈ gtL xs xb T k, x ∈ xs
  | 0, _, x, h => by cases h
  | k + 1, hk, x, h => by
    unfold gtL at h
    split at h
    · rcases List.mem_append.1 h with h | h
      · exact gtL_mem k (by omega) x h
      · rw [List.mem_singleton.1 h]; exact getD_mem' (by omega)
    · exact gtL_mem k (by omega) x h
theorem gtL_t {xs : List Int} {xb : List Bool} {T : List Int} {i : Int} (hi : 0 ≤ i) (h : T.getD i.toNat 0 = 2 ∧ cov xs xb T i.toNat = false) : gtL xs xb T (i + 1).toNat = gtL xs xb T i.toNat ++ [xs.getD i.toNat 0] := by
  rw [show (i + 1).toNat = i.toNat + 1 by omega, gtL, if_pos (by rw [h.1, h.2]; rfl)]
theorem gtL_f {xs : List Int} {xb : List Bool} {T : List Int} {i : Int} (hi : 0 ≤ i) (h : ¬ T.getD i.toNat 0 = 2 ∨ cov xs xb T i.toNat = true) : gtL xs xb T (i + 1).toNat = gtL xs xb T i.toNat := by
  rw [show (i + 1).toNat = i.toNat + 1 by omega, gtL, if_neg]
  rcases h with h | h
  · rw [decide_eq_false h]; simp
  · rw [h]; simp
/-! ### among -/
def amg (a b : List Int) : Bool := a.all fun x => decide (x ∈ b)
def amk (x : Int) (b : List Int) (j : Nat) : Bool := decide (x ∈ b.take j)
/-! ### sets below -/
section
variable {xs : List Int} {xb : List Bool} {ks : List (List UInt8)} {m T : List Int}
theorem blw_iff {a b : Int} : blw a b = true ↔ a ≠ b ∧ wi a b = true := by unfold blw; simp
theorem blw_trans {a b c : Int} (ha : R64 a) (hb : R64 b) (h1 : blw a b = true) (h2 : blw b c = true) : blw a c = true := by
  obtain ⟨h3, h4⟩ := blw_iff.1 h1
  obtain ⟨h5, h6⟩ := blw_iff.1 h2
  refine blw_iff.2 ⟨fun e => ?_, wi_trans ha hb h4 h6⟩
  subst e
  exact h3 (wi_anti ha hb h4 h6)
theorem cov_iff {i : Nat} : cov xs xb m i = true ↔ ∃ j, j < xs.length ∧ xb.getD j false = true ∧ m.getD j 0 = 2 ∧ blw (xs.getD j 0) (xs.getD i 0) = true := by
  unfold cov cvj
  simp only [List.any_eq_true, List.mem_range, Bool.and_eq_true, decide_eq_true_eq]
  constructor
  · rintro ⟨j, h1, ⟨h2, h3⟩, h4⟩; exact ⟨j, h1, h2, h3, h4⟩
  · rintro ⟨j, h1, h2, h3, h4⟩; exact ⟨j, h1, ⟨h2, h3⟩, h4⟩
theorem fdk_iff {i : Nat} : fdk xs xb m i xs.length = true ↔ m.getD i 0 = 2 ∧ ∀ j, j < xs.length → xb.getD j false = true → blw (xs.getD j 0) (xs.getD i 0) = true → m.getD j 0 = 1 := by
  unfold fdk fdj
  simp only [Bool.and_eq_true, decide_eq_true_eq, List.all_eq_true, List.mem_range]
  refine and_congr_right fun _ => ⟨fun h j h1 h2 h3 => ?_, fun h j h1 => ?_⟩
  · have := h j h1
    rw [h2, h3] at this
    simpa using this
  · cases hb : xb.getD j false with
    | false => rfl
    | true =>
      cases hw : blw (xs.getD j 0) (xs.getD i 0) with
      | false => rfl
      | true => rw [h j h1 hb hw]; rfl
theorem fdL_iff : ∀ {n : Nat} {x : Int}, x ∈ fdL xs xb m n ↔ ∃ k, k < n ∧ fdk xs xb m k xs.length = true ∧ xs.getD k 0 = x
  | 0, x => by simp [fdL]
  | n + 1, x => by
    have ih := @fdL_iff n x
    unfold fdL
    split
    · rename_i h
      rw [List.mem_append, List.mem_singleton, ih]
      constructor
      · rintro (⟨k, h1, h2⟩ | h1)
        · exact ⟨k, by omega, h2⟩
        · exact ⟨n, by omega, h, h1.symm⟩
      · rintro ⟨k, h1, h2, h3⟩
        by_cases hk : k = n
        · subst hk; exact .inr h3.symm
        · exact .inl ⟨k, by omega, h2, h3⟩
    · rename_i h
      rw [ih]
      constructor
      · rintro ⟨k, h1, h2⟩; exact ⟨k, by omega, h2⟩
      · rintro ⟨k, h1, h2, h3⟩
        by_cases hk : k = n
        · subst hk; exact absurd h2 h
        · exact ⟨k, by omega, h2, h3⟩
theorem gtL_iff : ∀ {n : Nat} {x : Int}, x ∈ gtL xs xb T n ↔ ∃ k, k < n ∧ (T.getD k 0 = 2 ∧ cov xs xb T k = false) ∧ xs.getD k 0 = x
  | 0, x => by simp [gtL]
  | n + 1, x => by
    have ih := @gtL_iff n x
    have hc : (decide (T.getD n 0 = 2) && !cov xs xb T n) = true ↔ (T.getD n 0 = 2 ∧ cov xs xb T n = false) := by simp
    unfold gtL
    split
    · rename_i h
      rw [List.mem_append, List.mem_singleton, ih]
      constructor
      · rintro (⟨k, h1, h2⟩ | h1)
        · exact ⟨k, by omega, h2⟩
        · exact ⟨n, by omega, hc.1 h, h1.symm⟩
      · rintro ⟨k, h1, h2, h3⟩
        by_cases hk : k = n
        · subst hk; exact .inr h3.symm
        · exact .inl ⟨k, by omega, h2, h3⟩
    · rename_i h
      rw [ih]
      constructor
      · rintro ⟨k, h1, h2⟩; exact ⟨k, by omega, h2⟩
      · rintro ⟨k, h1, h2, h3⟩
        by_cases hk : k = n
        · subst hk; exact absurd (hc.2 h2) h
        · exact ⟨k, by omega, h2, h3⟩
/-- What is known agrees with truths. -/
def Par (n : Nat) (m T : List Int) : Prop := ∀ i, i < n → m.getD i 0 = 0 ∨ m.getD i 0 = T.getD i 0
theorem cov_mono (hP : Par xs.length m T) {i : Nat} (h : cov xs xb m i = true) : cov xs xb T i = true := by
  obtain ⟨j, h1, h2, h3, h4⟩ := cov_iff.1 h
  refine cov_iff.2 ⟨j, h1, h2, ?_, h4⟩
  rcases hP j h1 with h | h
  · omega
  · omega
theorem fdk_gt (hP : Par xs.length m T) {i : Nat} (hi : i < xs.length) (h : fdk xs xb m i xs.length = true) : T.getD i 0 = 2 ∧ cov xs xb T i = false := by
  obtain ⟨h1, h2⟩ := fdk_iff.1 h
  refine ⟨by have := hP i hi; omega, Bool.eq_false_iff.2 fun hc => ?_⟩
  obtain ⟨j, h3, h4, h5, h6⟩ := cov_iff.1 hc
  have := h2 j h3 h4 h6
  have := hP j h3
  omega
/-- Nothing is left to be asked. -/
def Dn (xs : List Int) (xb : List Bool) (m : List Int) : Prop := ∀ i, i < xs.length → xb.getD i false = true → cov xs xb m i = false → m.getD i 0 ≠ 0
theorem dn_fdk (hr : ∀ x ∈ xs, R64 x) (hT : ∀ i, i < xs.length → T.getD i 0 = 2 → xb.getD i false = true) (hm : ∀ i, i < xs.length → 0 ≤ m.getD i 0 ∧ m.getD i 0 ≤ 2) (hP : Par xs.length m T) (hD : Dn xs xb m) {i : Nat} (hi : i < xs.length) : fdk xs xb m i xs.length = (decide (T.getD i 0 = 2) && !cov xs xb T i) := by
  rw [Bool.eq_iff_iff]
  constructor
  · intro h
    obtain ⟨h1, h2⟩ := fdk_gt hP hi h
    rw [h1, h2]; rfl
  · intro h
    simp only [Bool.and_eq_true, decide_eq_true_eq, Bool.not_eq_true'] at h
    obtain ⟨h1, h2⟩ := h
    have hcm : cov xs xb m i = false := Bool.eq_false_iff.2 fun hc => by rw [cov_mono hP hc] at h2; cases h2
    have hne := hD i hi (hT i hi h1) hcm
    refine fdk_iff.2 ⟨by have := hP i hi; omega, fun j h3 h4 h5 => ?_⟩
    have hcj : cov xs xb m j = false := Bool.eq_false_iff.2 fun hc => by
      obtain ⟨t, h6, h7, h8, h9⟩ := cov_iff.1 hc
      have : cov xs xb m i = true := cov_iff.2 ⟨t, h6, h7, h8, blw_trans (hr _ (getD_mem' h6)) (hr _ (getD_mem' h3)) h9 h5⟩
      rw [hcm] at this
      cases this
    have h6 := hD j h3 h4 hcj
    have h7 := hP j h3
    have h8 := hm j h3
    have h9 : T.getD j 0 ≠ 2 := fun e => by
      have : cov xs xb T i = true := cov_iff.2 ⟨j, h3, h4, e, h5⟩
      rw [h2] at this
      cases this
    omega
/-- All that is guilty is found. -/
theorem dn_eq9 (hr : ∀ x ∈ xs, R64 x) (hT : ∀ i, i < xs.length → T.getD i 0 = 2 → xb.getD i false = true) (hm : ∀ i, i < xs.length → 0 ≤ m.getD i 0 ∧ m.getD i 0 ≤ 2) (hP : Par xs.length m T) (hD : Dn xs xb m) : ∀ k, k ≤ xs.length → fdL xs xb m k = gtL xs xb T k
  | 0, _ => rfl
  | k + 1, hk => by
    rw [fdL, gtL, dn_fdk hr hT hm hP hD (by omega), dn_eq9 hr hT hm hP hD k (by omega)]
theorem fit_rng (h : fitB xs xb ks m = true) : ∀ i, i < xs.length → 0 ≤ m.getD i 0 ∧ m.getD i 0 ≤ 2 := fun i hi => by
  have := (fit_use h).2.2.2.2.1 i hi
  unfold rgM at this
  simp only [Bool.and_eq_true, decide_eq_true_eq] at this
  exact this.1
/-! ### what is open -/
theorem erl_iff {k : Nat} {key : List UInt8} : erl xb ks k key = true ↔ ∃ j, j < k ∧ xb.getD j false = true ∧ ks.getD j [] = key := by
  unfold erl
  simp only [List.any_eq_true, List.mem_range, Bool.and_eq_true, decide_eq_true_eq]
theorem opB_iff {want : Int → Bool} {key : List UInt8} : opB xs xb ks m want key = true ↔ ∃ i, i < xs.length ∧ xb.getD i false = true ∧ cov xs xb m i = false ∧ want (m.getD i 0) = true ∧ ks.getD i [] = key := by
  unfold opB
  simp only [List.any_eq_true, Bool.and_eq_true, decide_eq_true_eq]
  constructor
  · rintro ⟨i, h1, h2, h3⟩
    obtain ⟨h4, h5⟩ := frl_mem.1 h1
    unfold fre at h5
    simp only [Bool.and_eq_true, Bool.not_eq_true'] at h5
    exact ⟨i, h4, h5.1, h5.2, h2, h3⟩
  · rintro ⟨i, h1, h2, h3, h4, h5⟩
    exact ⟨i, frl_mem.2 ⟨h1, by unfold fre; rw [h2, h3]; rfl⟩, h4, h5⟩
theorem clsL_iff {want : Int → Bool} : ∀ {n : Nat} {x : Int}, x ∈ clsL xs xb ks m want n ↔ ∃ k, k < n ∧ (xb.getD k false = true ∧ opB xs xb ks m want (ks.getD k []) = true ∧ erl xb ks k (ks.getD k []) = false) ∧ xs.getD k 0 = x
  | 0, x => by simp [clsL]
  | n + 1, x => by
    have ih := @clsL_iff want n x
    have hc : ((xb.getD n false && opB xs xb ks m want (ks.getD n [])) && !erl xb ks n (ks.getD n [])) = true ↔ (xb.getD n false = true ∧ opB xs xb ks m want (ks.getD n []) = true ∧ erl xb ks n (ks.getD n []) = false) := by simp [and_assoc]
    unfold clsL
    split
    · rename_i h
      rw [List.mem_append, List.mem_singleton, ih]
      constructor
      · rintro (⟨k, h1, h2⟩ | h1)
        · exact ⟨k, by omega, h2⟩
        · exact ⟨n, by omega, hc.1 h, h1.symm⟩
      · rintro ⟨k, h1, h2, h3⟩
        by_cases hk : k = n
        · subst hk; exact .inr h3.symm
        · exact .inl ⟨k, by omega, h2, h3⟩
    · rename_i h
      rw [ih]
      constructor
      · rintro ⟨k, h1, h2⟩; exact ⟨k, by omega, h2⟩
      · rintro ⟨k, h1, h2, h3⟩
        by_cases hk : k = n
        · subst hk; exact absurd (hc.2 h2) h
        · exact ⟨k, by omega, h2, h3⟩
/-- Each class has a first set. -/
theorem first_of {i : Nat} : ∀ (n : Nat), i < n → xb.getD i false = true → ∃ k, k ≤ i ∧ xb.getD k false = true ∧ ks.getD k [] = ks.getD i [] ∧ erl xb ks k (ks.getD i []) = false := by
  intro n hn hb
  induction i using Nat.strongRecOn generalizing n with
  | _ i ih =>
    cases h : erl xb ks i (ks.getD i []) with
    | false => exact ⟨i, Nat.le_refl _, hb, rfl, h⟩
    | true =>
      obtain ⟨j, h1, h2, h3⟩ := erl_iff.1 h
      obtain ⟨k, h4, h5, h6, h7⟩ := ih j h1 n (by omega) h2
      rw [h3] at h6 h7
      exact ⟨k, by omega, h5, h6, h7⟩
end
end Go.Fw.Hu
end

section
/- hunt: telling keeps to the truth; what Run finds. -/
namespace Go.Fw.Hu
open Gu
structure Ok9 (xs : List Int) (xb : List Bool) (ks : List (List UInt8)) (bad : List Bool) (m : List Int) : Prop where
  fit : fitB xs xb ks m = true
  par : Par xs.length m (tms xb bad xs.length)
/-- Truths of one class are the same. -/
def Cls (ks : List (List UInt8)) (bad : List Bool) (n : Nat) : Prop := ∀ i j, i < n → j < n → ks.getD i [] = ks.getD j [] → bad.getD i false = bad.getD j false
theorem nod_of {xs : List Int} (h : xs.Nodup) : nod xs = true := nod_ok fun i hi k hk e => by
  have := nodup_getD h (by omega) hi e.symm
  omega
theorem ord_of {xs : List Int} {xb : List Bool} (h : xs.Nodup) (h2 : xb.length = xs.length) : ordB xs xb = true := by unfold ordB; rw [nod_of h, decide_eq_true h2]; rfl
theorem cls_tru (l : List Int) (ks : List (List UInt8)) : Cls ks (tru l ks ks.length) ks.length := fun i j hi hj e => by
  have hg : ∀ i, i < ks.length → (tru l ks ks.length).getD i false = truB l ks i := fun i hi => by
    unfold tru
    rw [List.getD_eq_getElem?_getD, List.getElem?_map, List.getElem?_range hi]
    rfl
  rw [hg i hi, hg j hj]
  unfold truB
  rw [e]
section
variable {xs : List Int} {xb : List Bool} {ks : List (List UInt8)} {bad : List Bool} {m : List Int}
theorem mk_of {b : Nat} (h : xb.getD b false = true) : tmk xb bad b = markOf (bad.getD b false) := by
  unfold tmk markOf
  rw [h]; rfl
theorem ok_new (h : ordB xs xb = true) (hk : ks.length = xs.length) : Ok9 xs xb ks bad (List.replicate ks.length 0) := ⟨fit_new h hk, fun i _ => .inl (getD_rep _ _)⟩
theorem ok_tel (hc : Cls ks bad xs.length) (h : Ok9 xs xb ks bad m) {b : Nat} (hb : b < xs.length) (hx : xb.getD b false = true) :
    telK xs xb ks m (xs.getD b 0) (bad.getD b false) = (ks, tlm xb ks m (b : Int) (markOf (bad.getD b false)) xs.length, 0) ∧ Ok9 xs xb ks bad (tlm xb ks m (b : Int) (markOf (bad.getD b false)) xs.length) ∧ Par xs.length m (tlm xb ks m (b : Int) (markOf (bad.getD b false)) xs.length) := by
  have hn := (fit_use h.fit).1
  have hml := (fit_use h.fit).2.2.2.1
  have hi : ixF (fun y => decide (xs.getD b 0 = y)) xs = (b : Int) := ixS_get hn hb
  have hT := tms_get xb bad hb
  have hp := h.par b hb
  rw [hT, mk_of hx] at hp
  have hg : ∀ j, j < xs.length → (tlm xb ks m (b : Int) (markOf (bad.getD b false)) xs.length).getD j 0 = if (xb.getD j false && decide (ks.getD j [] = ks.getD b [])) then markOf (bad.getD b false) else m.getD j 0 := fun j hj => by
    rw [tlm_get xs.length (by omega), decide_eq_true hj, Bool.true_and, Int.toNat_natCast]
  have hcls : ∀ j, j < xs.length → (xb.getD j false && decide (ks.getD j [] = ks.getD b [])) = true → tmk xb bad j = markOf (bad.getD b false) := fun j hj he => by
    rw [Bool.and_eq_true, decide_eq_true_eq] at he
    rw [mk_of he.1, hc j b hj hb he.2]
  refine ⟨?_, ⟨fit_tel h.fit hb hx (markOf_rng _), fun j hj => ?_⟩, fun j hj => ?_⟩
  · rw [telK_0 h.fit (by rw [hi, Int.toNat_natCast, hx]; rintro (h | h); omega; cases h) (by rw [hi, Int.toNat_natCast]; rintro ⟨h1, h2⟩; rcases hp with h3 | h3; exact h1 h3; exact h2 h3), hi]
  · rw [hg j hj, tms_get xb bad hj]
    split
    · rename_i he
      exact .inr (hcls j hj he).symm
    · have := h.par j hj
      rwa [tms_get xb bad hj] at this
  · rw [hg j hj]
    split
    · rename_i he
      have := h.par j hj
      rw [tms_get xb bad hj, hcls j hj he] at this
      exact this
    · exact .inr rfl
/-! ### Run -/
theorem run_ok (hc : Cls ks bad xs.length) (ho : ordB xs xb = true) (hk : ks.length = xs.length) : ∀ j, Ok9 xs xb ks bad (runS xs xb ks bad j).1
  | 0 => ok_new ho hk
  | j + 1 => by
    have ih := run_ok hc ho hk j
    rw [runS, stp]
    split
    · rename_i h
      obtain ⟨_, b, h1, h2, h3, h4, h5, h6⟩ := nx_use h
      rw [h6, Int.toNat_natCast, h5]
      have hx : xb.getD b false = true := (Bool.and_eq_true_iff.1 h3).1
      obtain ⟨h7, h8, _⟩ := ok_tel hc ih h1 hx
      rw [h7]
      exact h8
    · exact ih
theorem bk_pos {i : Nat} (h : fre xs xb m i = true) (hm : m.getD i 0 = 0) : ∀ k, i < k → 0 ≤ bk xs xb m k
  | 0, hk => absurd hk (by omega)
  | k + 1, hk => by
    rcases Nat.lt_or_ge i k with h' | h'
    · have ih := bk_pos h hm k h'
      cases hf : fre xs xb m k with
      | false => rw [bk_f hf]; exact ih
      | true =>
        rw [bk_t hf, bsN]
        split
        · omega
        · exact ih
    · obtain rfl : i = k := by omega
      rw [bk_t h, bsN]
      split
      · omega
      · rename_i hn
        rcases Int.lt_or_le (bk xs xb m i) 0 with h1 | h1
        · exact absurd ⟨hm, .inl h1⟩ hn
        · exact h1
theorem nx_dn (hf : fitB xs xb ks m = true) (h : nxO xs xb ks m = false) : Dn xs xb m := fun i hi hb hc he => by
  have hfr : fre xs xb m i = true := by unfold fre; rw [hb, hc]; rfl
  have h1 : 0 ≤ nxB xs xb m := bk_pos hfr he xs.length hi
  unfold nxO at h
  rw [nx_t hf, decide_eq_false (by omega)] at h
  cases h
theorem zc_pos {b : Nat} (hb : b < m.length) (h : m.getD b 0 = 0) : 0 < zc m := by
  unfold zc
  rw [List.length_pos_iff_exists_mem]
  exact ⟨m.getD b 0, List.mem_filter.2 ⟨getD_mem' hb, decide_eq_true h⟩⟩
theorem run_zc (ho : ordB xs xb = true) (hk : ks.length = xs.length) (hc : Cls ks bad xs.length) : ∀ j, nxO xs xb ks (runS xs xb ks bad j).1 = true → zc (runS xs xb ks bad j).1 + j ≤ xs.length
  | 0, _ => by
    have := zc_le (List.replicate ks.length (0 : Int))
    rw [List.length_replicate] at this
    show zc (List.replicate ks.length 0) + 0 ≤ _
    omega
  | j + 1, h => by
    cases hn : nxO xs xb ks (runS xs xb ks bad j).1 with
    | false =>
      rw [runS, stp, if_neg (by rw [hn]; decide), hn] at h
      cases h
    | true =>
      have ih := run_zc ho hk hc j hn
      have hok := run_ok (xb := xb) hc ho hk j
      obtain ⟨_, b, h1, h2, h3, h4, h5, h6⟩ := nx_use hn
      have hx : xb.getD b false = true := (Bool.and_eq_true_iff.1 h3).1
      have h7 := (ok_tel hc hok h1 hx).1
      have hz := zc_tel hok.fit h1 h4 hx (markOf_rng (bad.getD b false))
      have e : (runS xs xb ks bad (j + 1)).1 = tlm xb ks (runS xs xb ks bad j).1 (b : Int) (markOf (bad.getD b false)) xs.length := by
        rw [runS, stp, if_pos hn, h6, Int.toNat_natCast, h5, h7]
      rw [e]
      omega
theorem run_dn (ho : ordB xs xb = true) (hk : ks.length = xs.length) (hc : Cls ks bad xs.length) : nxO xs xb ks (runS xs xb ks bad xs.length).1 = false := by
  refine Bool.eq_false_iff.2 fun hn => ?_
  have h1 := run_zc ho hk hc _ hn
  have hok := run_ok (xb := xb) hc ho hk xs.length
  obtain ⟨_, b, h2, h3, h4, h5, h6, h7⟩ := nx_use hn
  have h8 := zc_pos (m := (runS xs xb ks bad xs.length).1) (b := b) (by rw [(fit_use hok.fit).2.2.2.1]; exact h2) h5
  omega
theorem tms_b {i : Nat} (hi : i < xs.length) (h : (tms xb bad xs.length).getD i 0 = 2) : xb.getD i false = true := by
  rw [tms_get xb bad hi] at h
  unfold tmk at h
  split at h
  · assumption
  · cases h
theorem ok_end (hr : ∀ x ∈ xs, R64 x) (h : Ok9 xs xb ks bad m) (hd : Dn xs xb m) : fndL xs xb ks m = gty xs xb bad := by
  unfold fndL gty
  rw [h.fit, if_pos rfl]
  exact dn_eq9 hr (fun i hi => tms_b hi) (fit_rng h.fit) h.par hd _ (Nat.le_refl _)
theorem run_right (hr : ∀ x ∈ xs, R64 x) (ho : ordB xs xb = true) (hk : ks.length = xs.length) (hb : bad.length = xs.length) (hc : Cls ks bad xs.length) : runE xs xb ks bad = 0 ∧ runF xs xb ks bad = gty xs xb bad := by
  have hok := run_ok (xb := xb) hc ho hk xs.length
  unfold runE runF
  rw [runOk_ok ho hk hb]
  exact ⟨rfl, ok_end hr hok (nx_dn hok.fit (run_dn ho hk hc))⟩
theorem newK_ok (h : ordB xs xb = true) (hk : ks.length = xs.length) : newK xs xb ks = (ks, List.replicate ks.length 0, 0) := by
  unfold newK
  rw [h, decide_eq_true hk]; rfl
end
end Go.Fw.Hu
end

section
/- hunt: what Run asks is needed. -/
namespace Go.Fw.Hu
open Gu
section
variable {xs : List Int} {xb : List Bool} {ks : List (List UInt8)} {bad : List Bool} {m : List Int}
/-- What is asked next is least. -/
theorem bk_min {i : Nat} (h : fre xs xb m i = true) (hm : m.getD i 0 = 0) : ∀ k, i < k → 0 ≤ bk xs xb m k ∧ szF (xs.getD (bk xs xb m k).toNat 0) ≤ szF (xs.getD i 0)
  | 0, hk => absurd hk (by omega)
  | k + 1, hk => by
    rcases Nat.lt_or_ge i k with h' | h'
    · have ih := bk_min h hm k h'
      cases hf : fre xs xb m k with
      | false => rw [bk_f hf]; exact ih
      | true =>
        rw [bk_t hf, bsN]
        split
        · rename_i hc
          rw [Int.toNat_natCast]
          rcases hc.2 with h1 | h1 <;> omega
        · exact ih
    · obtain rfl : i = k := by omega
      rw [bk_t h, bsN]
      split
      · rw [Int.toNat_natCast]; omega
      · rename_i hn
        rcases Int.lt_or_le (bk xs xb m i) 0 with h1 | h1
        · exact absurd ⟨hm, .inl h1⟩ hn
        · refine ⟨h1, ?_⟩
          rcases Int.lt_or_le (szF (xs.getD i 0)) (szF (xs.getD (bk xs xb m i).toNat 0)) with h2 | h2
          · exact absurd ⟨hm, .inr h2⟩ hn
          · exact h2
/-- Where Run stands. -/
theorem run_len (ho : ordB xs xb = true) (hk : ks.length = xs.length) (hc : Cls ks bad xs.length) : ∀ j, ((runS xs xb ks bad j).2.length = j ∨ nxO xs xb ks (runS xs xb ks bad j).1 = false) ∧ (runS xs xb ks bad j).2.length ≤ j ∧ runS xs xb ks bad (runS xs xb ks bad j).2.length = runS xs xb ks bad j ∧ ∀ i, i < (runS xs xb ks bad j).2.length → nxO xs xb ks (runS xs xb ks bad i).1 = true ∧ (runS xs xb ks bad j).2.getD i 0 = nxS xs xb ks (runS xs xb ks bad i).1
  | 0 => ⟨.inl rfl, Nat.le_refl _, rfl, fun i hi => by cases hi⟩
  | j + 1 => by
    obtain ⟨h1, h2, h3, h4⟩ := run_len ho hk hc j
    cases hn : nxO xs xb ks (runS xs xb ks bad j).1 with
    | false =>
      have e : runS xs xb ks bad (j + 1) = runS xs xb ks bad j := by rw [runS, stp, if_neg (by rw [hn]; decide)]
      rw [e]
      exact ⟨.inr hn, by omega, h3, h4⟩
    | true =>
      have hl : (runS xs xb ks bad j).2.length = j := by
        rcases h1 with h1 | h1
        · exact h1
        · rw [hn] at h1; cases h1
      have e : (runS xs xb ks bad (j + 1)).2 = (runS xs xb ks bad j).2 ++ [nxS xs xb ks (runS xs xb ks bad j).1] := by rw [runS, stp, if_pos hn]
      have hl' : (runS xs xb ks bad (j + 1)).2.length = j + 1 := by rw [e, List.length_append, hl]; rfl
      refine ⟨.inl hl', by omega, by rw [hl'], fun i hi => ?_⟩
      rw [hl'] at hi
      rw [e]
      by_cases hij : i = j
      · subst hij
        refine ⟨hn, ?_⟩
        rw [List.getD_eq_getElem?_getD, List.getElem?_append_right (by omega), hl, Nat.sub_self]
        rfl
      · obtain ⟨h5, h6⟩ := h4 i (by omega)
        refine ⟨h5, ?_⟩
        rw [← h6, List.getD_eq_getElem?_getD, List.getElem?_append_left (by omega), ← List.getD_eq_getElem?_getD]
theorem run_at (ho : ordB xs xb = true) (hk : ks.length = xs.length) (hc : Cls ks bad xs.length) {j : Nat} (hn : nxO xs xb ks (runS xs xb ks bad j).1 = true) : ∃ b : Nat, b < xs.length ∧ nxB xs xb (runS xs xb ks bad j).1 = (b : Int) ∧ xb.getD b false = true ∧ cov xs xb (runS xs xb ks bad j).1 b = false ∧ (runS xs xb ks bad j).1.getD b 0 = 0 ∧ nxS xs xb ks (runS xs xb ks bad j).1 = xs.getD b 0 ∧ ixS xs (nxS xs xb ks (runS xs xb ks bad j).1) = b ∧
    telK xs xb ks (runS xs xb ks bad j).1 (xs.getD b 0) (bad.getD b false) = (ks, (runS xs xb ks bad (j + 1)).1, 0) ∧ (runS xs xb ks bad (j + 1)).1 = tlm xb ks (runS xs xb ks bad j).1 (b : Int) (markOf (bad.getD b false)) xs.length := by
  have hok := run_ok (xb := xb) hc ho hk j
  obtain ⟨_, b, h1, h2, h3, h4, h5, h6⟩ := nx_use hn
  unfold fre at h3
  rw [Bool.and_eq_true, Bool.not_eq_true'] at h3
  have h7 := (ok_tel hc hok h1 h3.1).1
  have e : (runS xs xb ks bad (j + 1)).1 = tlm xb ks (runS xs xb ks bad j).1 (b : Int) (markOf (bad.getD b false)) xs.length := by
    rw [runS, stp, if_pos hn, h6, Int.toNat_natCast, h5, h7]
  exact ⟨b, h1, h2, h3.1, h3.2, h4, h5, h6, by rw [e]; exact h7, e⟩
theorem run_par (ho : ordB xs xb = true) (hk : ks.length = xs.length) (hc : Cls ks bad xs.length) (j : Nat) : Par xs.length (runS xs xb ks bad j).1 (runS xs xb ks bad (j + 1)).1 := by
  have hok := run_ok (xb := xb) hc ho hk j
  cases hn : nxO xs xb ks (runS xs xb ks bad j).1 with
  | false =>
    have e : runS xs xb ks bad (j + 1) = runS xs xb ks bad j := by rw [runS, stp, if_neg (by rw [hn]; decide)]
    rw [e]
    exact fun i _ => .inr rfl
  | true =>
    obtain ⟨b, h1, _, h3, _, _, _, _, _, e⟩ := run_at ho hk hc hn
    rw [e]
    exact (ok_tel hc hok h1 h3).2.2
theorem run_keep (ho : ordB xs xb = true) (hk : ks.length = xs.length) (hc : Cls ks bad xs.length) {i : Nat} (hi : i < xs.length) {j : Nat} (h : (runS xs xb ks bad j).1.getD i 0 ≠ 0) : ∀ d, (runS xs xb ks bad (j + d)).1.getD i 0 = (runS xs xb ks bad j).1.getD i 0
  | 0 => rfl
  | d + 1 => by
    have ih := run_keep ho hk hc hi h d
    have := run_par ho hk hc (bad := bad) (xb := xb) (j + d) i hi
    rw [ih] at this
    rcases this with h1 | h1
    · exact absurd h1 h
    · exact h1.symm
/-- What is marked was asked. -/
theorem run_was (ho : ordB xs xb = true) (hk : ks.length = xs.length) (hc : Cls ks bad xs.length) {i : Nat} (hi : i < xs.length) : ∀ j, (runS xs xb ks bad j).1.getD i 0 ≠ 0 → ∃ t, t < j ∧ nxO xs xb ks (runS xs xb ks bad t).1 = true ∧ ks.getD (ixS xs (nxS xs xb ks (runS xs xb ks bad t).1)).toNat [] = ks.getD i []
  | 0, h => absurd (getD_rep _ _) h
  | j + 1, h => by
    cases hn : nxO xs xb ks (runS xs xb ks bad j).1 with
    | false =>
      have e : runS xs xb ks bad (j + 1) = runS xs xb ks bad j := by rw [runS, stp, if_neg (by rw [hn]; decide)]
      rw [e] at h
      obtain ⟨t, h1, h2⟩ := run_was ho hk hc hi j h
      exact ⟨t, by omega, h2⟩
    | true =>
      obtain ⟨b, h1, _, h3, _, _, _, h5, _, e⟩ := run_at ho hk hc hn
      have hml := (fit_use (run_ok (xb := xb) hc ho hk (bad := bad) j).fit).2.2.2.1
      rw [e, tlm_get xs.length (by omega), Int.toNat_natCast] at h
      split at h
      · rename_i hcnd
        simp only [Bool.and_eq_true, decide_eq_true_eq] at hcnd
        exact ⟨j, by omega, hn, by rw [h5, Int.toNat_natCast]; exact hcnd.2.2.symm⟩
      · obtain ⟨t, h6, h7⟩ := run_was ho hk hc hi j h
        exact ⟨t, by omega, h7⟩
/-- What was asked stays free. -/
theorem run_free (hf : Fam xs) (ho : ordB xs xb = true) (hk : ks.length = xs.length) (hc : Cls ks bad xs.length) {t : Nat} (hn : nxO xs xb ks (runS xs xb ks bad t).1 = true) : ∀ d, cov xs xb (runS xs xb ks bad (t + d)).1 (ixS xs (nxS xs xb ks (runS xs xb ks bad t).1)).toNat = false
  | 0 => by
    obtain ⟨b, _, _, _, h4, _, _, h7, _⟩ := run_at ho hk hc hn
    rw [h7, Int.toNat_natCast]
    exact h4
  | d + 1 => by
    have ih := run_free hf ho hk hc hn d
    have hr := fam_r hf
    obtain ⟨b, h1, h2, h3, h4, h5, h6, h7, h8, _⟩ := run_at ho hk hc hn
    rw [h7, Int.toNat_natCast] at ih ⊢
    refine Bool.eq_false_iff.2 fun hcv => ?_
    obtain ⟨u, h9, h10, h11, h12⟩ := cov_iff.1 hcv
    rcases run_par ho hk hc (bad := bad) (xb := xb) (t + d) u h9 with h13 | h13
    · have h14 : (runS xs xb ks bad t).1.getD u 0 = 0 := by
        by_cases he : (runS xs xb ks bad t).1.getD u 0 = 0
        · exact he
        · have := run_keep ho hk hc h9 he d
          rw [h13] at this
          exact absurd this.symm he
      have hu : cov xs xb (runS xs xb ks bad t).1 u = false := Bool.eq_false_iff.2 fun hcu => by
        obtain ⟨v, g1, g2, g3, g4⟩ := cov_iff.1 hcu
        have : cov xs xb (runS xs xb ks bad t).1 b = true := cov_iff.2 ⟨v, g1, g2, g3, blw_trans (hr _ (getD_mem' g1)) (hr _ (getD_mem' h9)) g4 h12⟩
        rw [h4] at this
        cases this
      have hfr : fre xs xb (runS xs xb ks bad t).1 u = true := by unfold fre; rw [h10, hu]; rfl
      have hmin := (bk_min hfr h14 xs.length h9).2
      have e2 : bk xs xb (runS xs xb ks bad t).1 xs.length = (b : Int) := h2
      rw [e2, Int.toNat_natCast, sz_eq, sz_eq] at hmin
      obtain ⟨g5, g6⟩ := blw_iff.1 h12
      have hlt := size_lt (hf.2.1 _ (getD_mem' h9)) (hf.2.1 _ (getD_mem' h1)) g6 g5
      omega
    · have : cov xs xb (runS xs xb ks bad (t + d)).1 b = true := cov_iff.2 ⟨u, h9, h10, by rw [h13]; exact h11, h12⟩
      rw [ih] at this
      cases this
end
/-! ### as many are needed as were asked -/
def kyS (xs : List Int) (ks : List (List UInt8)) (s : Int) : List UInt8 := ks.getD (ixS xs s).toNat []
theorem sub_len {α : Type} [DecidableEq α] : ∀ (l l' : List α), l.Nodup → (∀ x ∈ l, x ∈ l') → l.length ≤ l'.length
  | [], _, _, _ => Nat.zero_le _
  | a :: l, l', hn, hs => by
    have ha := hs a List.mem_cons_self
    have hn' := List.nodup_cons.1 hn
    have ih := sub_len l (l'.erase a) hn'.2 fun x hx => by
      have hne : x ≠ a := fun e => hn'.1 (by rw [← e]; exact hx)
      exact (List.mem_erase_of_ne hne).2 (hs x (List.mem_cons_of_mem _ hx))
    rw [List.length_erase_of_mem ha] at ih
    have := List.length_pos_of_mem ha
    simp only [List.length_cons]
    omega
section
variable {xs : List Int} {xb : List Bool} {ks : List (List UInt8)} {bad : List Bool} {m : List Int}
theorem cls_nodup (hn : nod xs = true) {want : Int → Bool} : ∀ n, n ≤ xs.length → ((clsL xs xb ks m want n).map (kyS xs ks)).Nodup
  | 0, _ => List.nodup_nil
  | n + 1, hle => by
    have ih := cls_nodup hn (want := want) n (by omega)
    unfold clsL
    split
    · rename_i h
      rw [List.map_append]
      refine List.nodup_append.2 ⟨ih, by simp, fun x hx y hy e => ?_⟩
      subst e
      obtain ⟨s, hs, rfl⟩ := List.mem_map.1 hx
      obtain ⟨k, h1, ⟨h2, _, _⟩, rfl⟩ := clsL_iff.1 hs
      simp only [List.map_cons, List.map_nil, List.mem_singleton] at hy
      unfold kyS at hy
      rw [ixS_get hn (by omega), ixS_get hn (by omega), Int.toNat_natCast, Int.toNat_natCast] at hy
      simp only [Bool.and_eq_true, Bool.not_eq_true'] at h
      have := erl_iff.2 ⟨k, h1, h2, hy⟩
      rw [h.2] at this
      cases this
    · exact ih
theorem ask_key (ho : ordB xs xb = true) (hk : ks.length = xs.length) (hc : Cls ks bad xs.length) {j : Nat} : (runS xs xb ks bad j).2.map (kyS xs ks) = (List.range (runS xs xb ks bad j).2.length).map fun t => ks.getD (ixS xs (nxS xs xb ks (runS xs xb ks bad t).1)).toNat [] := by
  have h4 := (run_len ho hk hc (bad := bad) (xb := xb) j).2.2.2
  apply List.ext_getElem (by simp)
  intro t h1 h2
  rw [List.getElem_map, List.getElem_map, List.getElem_range]
  rw [List.length_map] at h1
  have := (h4 t h1).2
  rw [List.getD_eq_getElem?_getD, List.getElem?_eq_getElem h1] at this
  simp only [Option.getD_some] at this
  unfold kyS
  rw [this]
theorem ask_nodup (ho : ordB xs xb = true) (hk : ks.length = xs.length) (hc : Cls ks bad xs.length) {j : Nat} : ((runS xs xb ks bad j).2.map (kyS xs ks)).Nodup := by
  have h4 := (run_len ho hk hc (bad := bad) (xb := xb) j).2.2.2
  rw [ask_key ho hk hc]
  have key : ∀ s t, s < t → t < (runS xs xb ks bad j).2.length → ks.getD (ixS xs (nxS xs xb ks (runS xs xb ks bad s).1)).toNat [] ≠ ks.getD (ixS xs (nxS xs xb ks (runS xs xb ks bad t).1)).toNat [] := fun s t hst ht e => by
    obtain ⟨b, h1, _, _, _, _, _, h5, _, e1⟩ := run_at ho hk hc (h4 s (by omega)).1
    obtain ⟨c, g1, _, g3, _, g4, _, g5, _, _⟩ := run_at ho hk hc (h4 t ht).1
    rw [h5, g5, Int.toNat_natCast, Int.toNat_natCast] at e
    have hml := (fit_use (run_ok (xb := xb) hc ho hk (bad := bad) s).fit).2.2.2.1
    have hm : (runS xs xb ks bad (s + 1)).1.getD c 0 ≠ 0 := by
      rw [e1, tlm_get xs.length (by omega), decide_eq_true g1, g3, Int.toNat_natCast, decide_eq_true e.symm]
      have := markOf_rng (bad.getD b false)
      simp only [Bool.and_self, if_true]
      omega
    have := run_keep ho hk hc g1 hm (t - (s + 1))
    rw [show s + 1 + (t - (s + 1)) = t by omega, g4] at this
    exact hm this.symm
  refine List.nodup_iff_pairwise_ne.2 ?_
  rw [List.pairwise_map]
  refine List.Pairwise.imp_of_mem ?_ List.pairwise_lt_range
  intro s t _ ht hst
  exact key s t hst (List.mem_range.1 ht)
theorem need_ask (ho : ordB xs xb = true) (hk : ks.length = xs.length) (hc : Cls ks bad xs.length) : ∀ x ∈ clsL xs xb ks (runS xs xb ks bad xs.length).1 isN xs.length, kyS xs ks x ∈ (runS xs xb ks bad xs.length).2.map (kyS xs ks) := fun x hx => by
  have hn := (fit_use (run_ok (xb := xb) hc ho hk (bad := bad) 0).fit).1
  obtain ⟨h0, h1', h2', h4⟩ := run_len ho hk hc (bad := bad) (xb := xb) xs.length
  obtain ⟨k, h1, ⟨_, h3, _⟩, rfl⟩ := clsL_iff.1 hx
  obtain ⟨i, h5, _, _, h8, h9⟩ := opB_iff.1 h3
  have hne : (runS xs xb ks bad xs.length).1.getD i 0 ≠ 0 := fun e => by unfold isN at h8; rw [e] at h8; cases h8
  rw [← h2'] at hne
  obtain ⟨t, h10, h11, h12⟩ := run_was ho hk hc h5 _ hne
  rw [ask_key ho hk hc]
  refine List.mem_map.2 ⟨t, List.mem_range.2 h10, ?_⟩
  rw [h12, h9]
  unfold kyS
  rw [ixS_get hn h1, Int.toNat_natCast]
theorem ask_need (hf : Fam xs) (ho : ordB xs xb = true) (hk : ks.length = xs.length) (hc : Cls ks bad xs.length) : ∀ y ∈ (runS xs xb ks bad xs.length).2.map (kyS xs ks), y ∈ (clsL xs xb ks (runS xs xb ks bad xs.length).1 isN xs.length).map (kyS xs ks) := fun y hy => by
  have hn := (fit_use (run_ok (xb := xb) hc ho hk (bad := bad) 0).fit).1
  obtain ⟨h0, h1', h2', h4⟩ := run_len ho hk hc (bad := bad) (xb := xb) xs.length
  rw [ask_key ho hk hc] at hy
  obtain ⟨t, ht, rfl⟩ := List.mem_map.1 hy
  rw [List.mem_range] at ht
  have hnt := (h4 t ht).1
  obtain ⟨b, h1, _, h3, _, _, _, h7, _, e1⟩ := run_at ho hk hc hnt
  have hfr := run_free hf ho hk hc hnt (xs.length - t)
  rw [show t + (xs.length - t) = xs.length by omega, h7, Int.toNat_natCast] at hfr
  have hml := (fit_use (run_ok (xb := xb) hc ho hk (bad := bad) t).fit).2.2.2.1
  have hm : (runS xs xb ks bad (t + 1)).1.getD b 0 ≠ 0 := by
    rw [e1, tlm_get xs.length (by omega), decide_eq_true h1, h3, Int.toNat_natCast, decide_eq_true rfl]
    have := markOf_rng (bad.getD b false)
    simp only [Bool.and_self, if_true]
    omega
  have hk2 := run_keep ho hk hc h1 hm (xs.length - (t + 1))
  rw [show t + 1 + (xs.length - (t + 1)) = xs.length by omega] at hk2
  obtain ⟨k, g1, g2, g3, g4⟩ := first_of (xb := xb) (ks := ks) xs.length h1 h3
  rw [h7, Int.toNat_natCast]
  refine List.mem_map.2 ⟨xs.getD k 0, clsL_iff.2 ⟨k, by omega, ⟨g2, opB_iff.2 ⟨b, h1, h3, hfr, ?_, g3.symm⟩, by rw [g3]; exact g4⟩, rfl⟩, ?_⟩
  · unfold isN
    rw [hk2, decide_eq_false hm]; rfl
  · unfold kyS
    rw [ixS_get hn (by omega), Int.toNat_natCast, g3]
theorem need_len (hf : Fam xs) (ho : ordB xs xb = true) (hk : ks.length = xs.length) (hc : Cls ks bad xs.length) : (clsL xs xb ks (runS xs xb ks bad xs.length).1 isN xs.length).length = (runS xs xb ks bad xs.length).2.length := by
  have hn := (fit_use (run_ok (xb := xb) hc ho hk (bad := bad) 0).fit).1
  have h1 := sub_len _ _ (cls_nodup hn (want := isN) (m := (runS xs xb ks bad xs.length).1) (xb := xb) (ks := ks) _ (Nat.le_refl _)) (fun y hy => by
    obtain ⟨x, hx, rfl⟩ := List.mem_map.1 hy
    exact need_ask ho hk hc x hx)
  have h2 := sub_len _ _ (ask_nodup ho hk hc (bad := bad) (xb := xb) (j := xs.length)) (ask_need hf ho hk hc)
  simp only [List.length_map] at h1 h2
  omega
/-! ### other truths -/
def oneB (m r : List Int) (ks : List (List UInt8)) (j : Nat) : Bool := decide (m.getD j 0 = 2) || (decide (m.getD j 0 = 0) && decide (atN r (((ks.getD j []).getD 0 0).toNat : Int) 2 = 1))
def onL (m r : List Int) (ks : List (List UInt8)) (n : Nat) : List Bool := (List.range n).map (oneB m r ks)
def twoB (xb : List Bool) (m r : List Int) (ks : List (List UInt8)) (a j : Nat) : Bool := !(oneB m r ks j == (xb.getD j false && decide (ks.getD j [] = ks.getD a [])))
def twL (xb : List Bool) (m r : List Int) (ks : List (List UInt8)) (a n : Nat) : List Bool := (List.range n).map (twoB xb m r ks a)
theorem mp_get {f : Nat → Bool} {n i : Nat} (h : i < n) : ((List.range n).map f).getD i false = f i := by
  rw [List.getD_eq_getElem?_getD, List.getElem?_map, List.getElem?_range h]; rfl
theorem onL_succ (m r : List Int) (n : Nat) : onL m r ks (n + 1) = onL m r ks n ++ [oneB m r ks n] := by simp [onL, List.range_succ]
theorem twL_succ (m r : List Int) (a n : Nat) : twL xb m r ks a (n + 1) = twL xb m r ks a n ++ [twoB xb m r ks a n] := by simp [twL, List.range_succ]
theorem onL_len (m r : List Int) (n : Nat) : (onL m r ks n).length = n := by simp [onL]
theorem twL_len (m r : List Int) (a n : Nat) : (twL xb m r ks a n).length = n := by simp [twL]
theorem one_par (h : fitB xs xb ks m = true) (r : List Int) : Par xs.length m (tms xb (onL m r ks xs.length) xs.length) := fun i hi => by
  rw [tms_get _ _ hi]
  have hrg := (fit_use h).2.2.2.2.1 i hi
  unfold rgM at hrg
  simp only [Bool.and_eq_true, decide_eq_true_eq, Bool.or_eq_true] at hrg
  by_cases h0 : m.getD i 0 = 0
  · exact .inl h0
  · right
    have hb : xb.getD i false = true := by rcases hrg.2 with h1 | h1; exact h1; exact absurd h1 h0
    unfold tmk onL
    rw [hb, mp_get hi, if_pos rfl]
    unfold oneB
    rw [decide_eq_false h0, Bool.false_and, Bool.or_false]
    by_cases h2 : m.getD i 0 = 2
    · rw [decide_eq_true h2, if_pos rfl, h2]
    · rw [decide_eq_false h2, if_neg (by decide)]; omega
theorem one_eq (hr : ∀ x ∈ xs, R64 x) (h : fitB xs xb ks m = true) (hd : Dn xs xb m) (r : List Int) : gty xs xb (onL m r ks xs.length) = fndL xs xb ks m := by
  unfold fndL gty
  rw [h, if_pos rfl]
  exact (dn_eq9 hr (fun i hi => tms_b hi) (fit_rng h) (one_par h r) hd _ (Nat.le_refl _)).symm
/-- A least set of a class that is not covered. -/
theorem cls_least (hf : Fam xs) (m : List Int) (key : List UInt8) : ∀ (n i : Nat), i < xs.length → xb.getD i false = true → ks.getD i [] = key → cov xs xb m i = false → (size (xs.getD i 0) 64).toNat ≤ n → ∃ c, c < xs.length ∧ xb.getD c false = true ∧ ks.getD c [] = key ∧ cov xs xb m c = false ∧ ∀ u, u < xs.length → xb.getD u false = true → ks.getD u [] = key → blw (xs.getD u 0) (xs.getD c 0) = false
  | n, i, hi, hb, hk, hcv, hs => by
    by_cases h : ∃ u, u < xs.length ∧ xb.getD u false = true ∧ ks.getD u [] = key ∧ blw (xs.getD u 0) (xs.getD i 0) = true
    · obtain ⟨u, h1, h2, h3, h4⟩ := h
      have hr := fam_r hf
      have hcu : cov xs xb m u = false := Bool.eq_false_iff.2 fun hc => by
        obtain ⟨v, g1, g2, g3, g4⟩ := cov_iff.1 hc
        have : cov xs xb m i = true := cov_iff.2 ⟨v, g1, g2, g3, blw_trans (hr _ (getD_mem' g1)) (hr _ (getD_mem' h1)) g4 h4⟩
        rw [hcv] at this
        cases this
      obtain ⟨g5, g6⟩ := blw_iff.1 h4
      have hlt := size_lt (hf.2.1 _ (getD_mem' h1)) (hf.2.1 _ (getD_mem' hi)) g6 g5
      have h0 := (size_le (xs.getD u 0) 64).1
      match n, hs with
      | 0, hs => exact absurd hs (by omega)
      | n + 1, hs => exact cls_least hf m key n u h1 h2 h3 hcu (by omega)
    · refine ⟨i, hi, hb, hk, hcv, fun u h1 h2 h3 => Bool.eq_false_iff.2 fun h4 => h ⟨u, h1, h2, h3, h4⟩⟩
/-- The other truths of a class that is needed give another answer. -/
theorem two_ne (hf : Fam xs) (h : fitB xs xb ks m = true) (hd : Dn xs xb m) (r : List Int) {a : Nat} (hop : opB xs xb ks m isN (ks.getD a []) = true) : gty xs xb (twL xb m r ks a xs.length) ≠ fndL xs xb ks m := by
  have hr := fam_r hf
  obtain ⟨i, h1, h2, h3, h4, h5⟩ := opB_iff.1 hop
  have hi0 : m.getD i 0 ≠ 0 := fun e => by unfold isN at h4; rw [e] at h4; cases h4
  obtain ⟨c, c1, c2, c3, c4, c5⟩ := cls_least hf m (ks.getD a []) _ i h1 h2 h5 h3 (Nat.le_refl _)
  have hmc : m.getD c 0 = m.getD i 0 := same_mk h c1 h1 c2 h2 (by rw [c3, h5])
  have hrg := fit_rng h c c1
  have hlow : ∀ u, u < xs.length → xb.getD u false = true → blw (xs.getD u 0) (xs.getD c 0) = true → m.getD u 0 = 1 ∧ ks.getD u [] ≠ ks.getD a [] := fun u u1 u2 u3 => by
    have hcu : cov xs xb m u = false := Bool.eq_false_iff.2 fun hc => by
      obtain ⟨v, g1, g2, g3, g4⟩ := cov_iff.1 hc
      have : cov xs xb m c = true := cov_iff.2 ⟨v, g1, g2, g3, blw_trans (hr _ (getD_mem' g1)) (hr _ (getD_mem' u1)) g4 u3⟩
      rw [c4] at this
      cases this
    have hne := hd u u1 u2 hcu
    have hu := fit_rng h u u1
    have h2' : m.getD u 0 ≠ 2 := fun e => by
      have : cov xs xb m c = true := cov_iff.2 ⟨u, u1, u2, e, u3⟩
      rw [c4] at this
      cases this
    refine ⟨by omega, fun e => ?_⟩
    rw [c5 u u1 u2 e] at u3
    cases u3
  have hT : ∀ u, u < xs.length → (tms xb (twL xb m r ks a xs.length) xs.length).getD u 0 = if xb.getD u false then (if twoB xb m r ks a u then 2 else 1) else 0 := fun u hu => by
    rw [tms_get _ _ hu]
    unfold tmk twL
    rw [mp_get hu]
  have hTc : (tms xb (twL xb m r ks a xs.length) xs.length).getD c 0 = if m.getD c 0 = 2 then 1 else 2 := by
    rw [hT c c1, c2, if_pos rfl]
    unfold twoB oneB
    rw [decide_eq_false (show ¬ m.getD c 0 = 0 by omega), c2, c3, decide_eq_true rfl]
    by_cases h9 : m.getD c 0 = 2
    · rw [decide_eq_true h9, if_pos h9]; rfl
    · rw [decide_eq_false h9, if_neg h9]; rfl
  have hcT : cov xs xb (tms xb (twL xb m r ks a xs.length) xs.length) c = false := Bool.eq_false_iff.2 fun hc => by
    obtain ⟨u, u1, u2, u3, u4⟩ := cov_iff.1 hc
    obtain ⟨l1, l2⟩ := hlow u u1 u2 u4
    rw [hT u u1, u2, if_pos rfl] at u3
    unfold twoB oneB at u3
    rw [l1, decide_eq_false l2, u2] at u3
    simp at u3
  intro he
  have hin : xs.getD c 0 ∈ gty xs xb (twL xb m r ks a xs.length) ↔ xs.getD c 0 ∈ fndL xs xb ks m := by rw [he]
  unfold gty fndL at hin
  rw [h, if_pos rfl, gtL_iff, fdL_iff] at hin
  have hn := hf.1
  by_cases h9 : m.getD c 0 = 2
  · obtain ⟨k, k1, ⟨k2, _⟩, k4⟩ := hin.2 ⟨c, c1, fdk_iff.2 ⟨h9, fun u u1 u2 u3 => (hlow u u1 u2 u3).1⟩, rfl⟩
    obtain rfl := nodup_getD hn k1 c1 k4
    rw [hTc, if_pos h9] at k2
    cases k2
  · obtain ⟨k, k1, k2, k4⟩ := hin.1 ⟨c, c1, ⟨by rw [hTc, if_neg h9], hcT⟩, rfl⟩
    obtain rfl := nodup_getD hn k1 c1 k4
    exact h9 (fdk_iff.1 k2).1
end
end Go.Fw.Hu
end

section
/- hunt: what the law of the names walks over. -/
namespace Go.Fw.Hu
open Gu
section
variable {xs : List Int} {xb : List Bool} {ks : List (List UInt8)} {bad : List Bool}
theorem run_named (hf : Fam xs) (ho : ordB xs xb = true) (hk : ks.length = xs.length) (hb : bad.length = xs.length) (hc : Cls ks bad xs.length) :
    ∃ A M, runA xs xb ks bad = A ∧ runF xs xb ks bad = fndL xs xb ks M ∧ A.length ≤ xs.length ∧ fitB xs xb ks M = true ∧ Dn xs xb M ∧ (runS xs xb ks bad A.length).1 = M ∧ (ndL xs xb ks M).length = A.length ∧
      (∀ i, i < A.length → ∃ b : Nat, b < xs.length ∧ ixF (fun y => decide (A.getD i 0 = y)) xs = (b : Int) ∧ (runS xs xb ks bad i).1.getD b 0 = 0 ∧ telK xs xb ks (runS xs xb ks bad i).1 (A.getD i 0) (bad.getD b false) = (ks, (runS xs xb ks bad (i + 1)).1, 0) ∧ fitB xs xb ks (runS xs xb ks bad i).1 = true) ∧
      ∀ e, e < (ndL xs xb ks M).length → ∃ k : Nat, k < xs.length ∧ ixF (fun y => decide ((ndL xs xb ks M).getD e 0 = y)) xs = (k : Int) ∧ opB xs xb ks M isN (ks.getD k []) = true ∧ ks.getD k [] ∈ A.map (kyS xs ks) := by
  have hR := fam_r hf
  have hok := run_ok (xb := xb) hc ho hk xs.length
  have hnd : nod xs = true := (fit_use hok.fit).1
  obtain ⟨_, h2, h3, h4⟩ := run_len ho hk hc (xb := xb) xs.length
  have hro := runOk_ok ho hk hb
  have hE : ndL xs xb ks (runS xs xb ks bad xs.length).1 = clsL xs xb ks (runS xs xb ks bad xs.length).1 isN xs.length := by unfold ndL clsQ; rw [hok.fit, if_pos rfl]
  refine ⟨(runS xs xb ks bad xs.length).2, (runS xs xb ks bad xs.length).1, by unfold runA; rw [hro, if_pos rfl], by unfold runF; rw [hro, if_pos rfl], h2, hok.fit, nx_dn hok.fit (run_dn ho hk hc), by rw [h3], by rw [hE]; exact need_len hf ho hk hc, fun i hi => ?_, fun e he => ?_⟩
  · obtain ⟨h5, h6⟩ := h4 i hi
    obtain ⟨b, g1, _, _, _, g5, g6, g7, g8, _⟩ := run_at ho hk hc h5
    rw [h6, g6]
    refine ⟨b, g1, ?_, g5, g8, (run_ok (xb := xb) hc ho hk i).fit⟩
    have : ixS xs (nxS xs xb ks (runS xs xb ks bad i).1) = (b : Int) := g7
    rw [g6] at this
    exact this
  · rw [hE] at he ⊢
    have hm := getD_mem' he
    obtain ⟨k, k1, ⟨_, k3, _⟩, k5⟩ := clsL_iff.1 hm
    have hna := need_ask ho hk hc _ hm
    rw [← k5] at hna ⊢
    refine ⟨k, k1, ixS_get hnd k1, k3, ?_⟩
    unfold kyS at hna
    rw [ixS_get hnd k1, Int.toNat_natCast] at hna
    exact hna
def nmd (xs : List Int) (ks : List (List UInt8)) (A : List Int) (k j : Nat) : Bool := decide (ks.getD k [] ∈ (A.take j).map (kyS xs ks))
theorem nmd_0 (A : List Int) (k : Nat) : nmd xs ks A k 0 = false := by simp [nmd]
theorem nmd_succ {A : List Int} {k j : Nat} (h : j < A.length) : nmd xs ks A k (j + 1) = (nmd xs ks A k j || decide (ks.getD (ixF (fun y => decide (A.getD j 0 = y)) xs).toNat [] = ks.getD k [])) := by
  unfold nmd
  rw [take_snoc' h, List.map_append, Bool.eq_iff_iff]
  simp only [List.map_cons, List.map_nil, List.mem_append, List.mem_singleton, decide_eq_true_eq, Bool.or_eq_true]
  refine or_congr_right ⟨fun e => ?_, fun e => ?_⟩
  · rw [e]; rfl
  · rw [← e]; rfl
theorem nmd_all {A : List Int} {k : Nat} (h : ks.getD k [] ∈ A.map (kyS xs ks)) : nmd xs ks A k A.length = true := by
  unfold nmd
  rw [List.take_length]
  exact decide_eq_true h
theorem two_t {m r : List Int} {a j : Nat} (h : xb.getD j false = true) : twoB xb m r ks a j = !(oneB m r ks j == decide (ks.getD j [] = ks.getD a [])) := by unfold twoB; rw [h, Bool.true_and]
theorem two_f {m r : List Int} {a j : Nat} (h : xb.getD j false = false) : twoB xb m r ks a j = !(oneB m r ks j == false) := by unfold twoB; rw [h, Bool.false_and]
end
end Go.Fw.Hu
end
