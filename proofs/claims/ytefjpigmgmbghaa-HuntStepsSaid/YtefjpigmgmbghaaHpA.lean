/- A text of a proof over this seat: walks over the program's functions and the plain laws that they need. -/
import Derived.Test.YtefjpigmgmbghaaGuA
import Derived.Test.YtefjpigmgmbghaaFwC
import Derived.Test.YtefjpigmgmbghaaFwD
set_option linter.all false
section
/- Plain laws of the package hunt. -/
namespace Go.Fw.Hu
open Gu

/-! ### sets that are all different -/
def nod (xs : List Int) : Bool := (List.range xs.length).all fun i => !decide (xs.getD i 0 ∈ xs.take i)
def dct (xs : List Int) (i : Nat) : Nat := ((List.range i).filter fun j => !decide (xs.getD j 0 ∈ xs.take j)).length
theorem dct_succ (xs : List Int) (i : Nat) : dct xs (i + 1) = dct xs i + (if xs.getD i 0 ∈ xs.take i then 0 else 1) := by
  unfold dct
  rw [List.range_succ, List.filter_append, List.length_append]
  congr 1
  by_cases h : xs.getD i 0 ∈ xs.take i <;> simp only [h, decide_true, decide_false, Bool.not_true, Bool.not_false, List.filter_cons, if_true, if_false] <;> rfl
theorem dct_le (xs : List Int) (i : Nat) : dct xs i ≤ i := by
  unfold dct
  have := List.length_filter_le (fun j => !decide (xs.getD j 0 ∈ xs.take j)) (List.range i)
  rwa [List.length_range] at this
theorem dct_all (xs : List Int) : ∀ i, decide (dct xs i = i) = (List.range i).all fun i => !decide (xs.getD i 0 ∈ xs.take i)
  | 0 => rfl
  | i + 1 => by
    have ih := dct_all xs i
    have hle := dct_le xs i
    rw [List.range_succ, List.all_append, ← ih, dct_succ]
    by_cases h : xs.getD i 0 ∈ xs.take i
    · rw [if_pos h, decide_eq_false (by omega)]
      simp only [List.all_cons, h, decide_true, Bool.not_true, Bool.false_and, Bool.and_false]
    · rw [if_neg h]
      simp only [List.all_cons, h, decide_false, Bool.not_false, List.all_nil, Bool.and_true]
      rw [decide_eq_decide]
      omega
theorem nod_dct (xs : List Int) : decide (dct xs xs.length = xs.length) = nod xs := dct_all xs _
def ordB (xs : List Int) (xb : List Bool) : Bool := nod xs && decide (xb.length = xs.length)
theorem aset_mem {α : Type} [DecidableEq α] (a y : α) (v : Value) : ∀ l : List (α × Value), y ∈ (aset a v l).map (·.1) ↔ y = a ∨ y ∈ l.map (·.1)
  | [] => by simp [aset]
  | p :: l => by
    rw [aset]
    split
    · rename_i h
      simp only [List.map_cons, List.mem_cons, h]
      constructor
      · rintro (h | h); exact .inl h; exact .inr (.inr h)
      · rintro (h | h | h); exact .inl h; exact .inl h; exact .inr h
    · simp only [List.map_cons, List.mem_cons, aset_mem a y v l]
      constructor
      · rintro (h | h | h); exact .inr (.inl h); exact .inl h; exact .inr (.inr h)
      · rintro (h | h | h); exact .inr (.inl h); exact .inl h; exact .inr (.inr h)
theorem aset_len {α : Type} [DecidableEq α] (a : α) (v : Value) : ∀ l : List (α × Value), (aset a v l).length = l.length + (if a ∈ l.map (·.1) then 0 else 1)
  | [] => by simp [aset]
  | p :: l => by
    rw [aset]
    split
    · rename_i h; simp [h]
    · rename_i h
      rw [List.length_cons, aset_len a v l, List.length_cons, List.map_cons]
      have : (a ∈ p.1 :: l.map (·.1)) ↔ a ∈ l.map (·.1) := by
        rw [List.mem_cons]
        exact ⟨fun h' => h'.resolve_left h, .inr⟩
      simp only [this]
      omega
def MetM (xs : List Int) (i : Nat) (ml : List (Int × Value)) : Prop := ml.length = dct xs i ∧ ∀ y, y ∈ ml.map (·.1) ↔ y ∈ xs.take i
theorem MetM.start (xs : List Int) : MetM xs 0 [] := ⟨rfl, fun y => by simp⟩
theorem MetM.step {xs : List Int} {i : Int} {ml : List (Int × Value)} (h : MetM xs i.toNat ml) (hi : 0 ≤ i ∧ i < xs.length) : MetM xs (i + 1).toNat (aset (xs.getD i.toNat 0) (.bool true) ml) := by
  rw [show (i + 1).toNat = i.toNat + 1 by omega]
  refine ⟨?_, fun y => ?_⟩
  · rw [aset_len, h.1, dct_succ]
    simp only [h.2]
  · rw [aset_mem, h.2, take_snoc' (by omega), List.mem_append, List.mem_singleton]
    exact Or.comm
theorem MetM.len {xs : List Int} {ml : List (Int × Value)} (h : MetM xs xs.length ml) : decide ((ml.length : Int) = (xs.length : Int)) = nod xs := by
  rw [← nod_dct, h.1, decide_eq_decide]
  omega
theorem nod_no {xs : List Int} {i k : Nat} (hi : i < xs.length) (hk : k < i) (h : xs.getD i 0 = xs.getD k 0) : nod xs = false := by
  refine Bool.eq_false_iff.2 fun hn => ?_
  have := List.all_eq_true.1 hn i (List.mem_range.2 hi)
  simp only [Bool.not_eq_true', decide_eq_false_iff_not] at this
  apply this
  rw [h, List.getD_eq_getElem?_getD, List.getElem?_eq_getElem (by omega)]
  exact List.mem_take_iff_getElem.2 ⟨k, by omega, rfl⟩
theorem nod_ok {xs : List Int} (h : ∀ i, i < xs.length → ∀ k, k < i → xs.getD i 0 ≠ xs.getD k 0) : nod xs = true := by
  refine List.all_eq_true.2 fun i hi => ?_
  rw [List.mem_range] at hi
  simp only [Bool.not_eq_true', decide_eq_false_iff_not]
  intro hm
  obtain ⟨k, hk, e⟩ := List.mem_take_iff_getElem.1 hm
  refine h i hi k (by omega) ?_
  rw [← e]
  simp only [List.getD_eq_getElem?_getD]
  rw [List.getElem?_eq_getElem (show k < xs.length by omega)]
  rfl

/-! ### what is known fits -/
def rgM (m : Int) (b : Bool) : Bool := (decide (0 ≤ m) && decide (m ≤ 2)) && (b || decide (m = 0))
def sameI (xb : List Bool) (ks : List (List UInt8)) (ms : List Int) (i j : Nat) : Bool := !((xb.getD i false && xb.getD j false) && decide (ks.getD i [] = ks.getD j [])) || decide (ms.getD i 0 = ms.getD j 0)
def fitI (xb : List Bool) (ks : List (List UInt8)) (ms : List Int) (i : Nat) : Bool := rgM (ms.getD i 0) (xb.getD i false) && (List.range i).all fun j => sameI xb ks ms i j
def lenB (xs : List Int) (xb : List Bool) (ks : List (List UInt8)) (ms : List Int) : Bool := (ordB xs xb && decide (ks.length = xs.length)) && decide (ms.length = xs.length)
def fitB (xs : List Int) (xb : List Bool) (ks : List (List UInt8)) (ms : List Int) : Bool := lenB xs xb ks ms && (List.range xs.length).all fun i => fitI xb ks ms i
section
variable {xs : List Int} {xb : List Bool} {ks : List (List UInt8)} {ms : List Int}
theorem fit_len (h : lenB xs xb ks ms = false) : fitB xs xb ks ms = false := by unfold fitB; rw [h]; rfl
theorem fit_at {i : Nat} (hi : i < xs.length) (h : fitI xb ks ms i = false) : fitB xs xb ks ms = false := by
  unfold fitB
  have : ((List.range xs.length).all fun i => fitI xb ks ms i) = false := by
    refine Bool.eq_false_iff.2 fun hn => ?_
    have := List.all_eq_true.1 hn i (List.mem_range.2 hi)
    rw [h] at this
    cases this
  rw [this, Bool.and_false]
theorem fit_rg {i : Nat} (hi : i < xs.length) (h : (decide (ms.getD i 0 < 0) || decide (2 < ms.getD i 0)) = true ∨ (!xb.getD i false && !decide (ms.getD i 0 = 0)) = true) : fitB xs xb ks ms = false := by
  refine fit_at hi ?_
  have : rgM (ms.getD i 0) (xb.getD i false) = false := by
    unfold rgM
    rcases h with h | h
    · simp only [Bool.or_eq_true, decide_eq_true_eq] at h
      rcases h with h | h
      · rw [decide_eq_false (show ¬ 0 ≤ ms.getD i 0 by omega)]; rfl
      · rw [decide_eq_false (show ¬ ms.getD i 0 ≤ 2 by omega)]; simp
    · simp only [Bool.and_eq_true, Bool.not_eq_true', decide_eq_false_iff_not] at h
      rw [h.1, decide_eq_false h.2]; simp
  unfold fitI
  rw [this]; rfl
theorem fit_same {i j : Nat} (hi : i < xs.length) (hj : j < i) (h1 : xb.getD i false = true) (h2 : xb.getD j false = true) (h3 : ks.getD i [] = ks.getD j []) (h4 : ¬ ms.getD i 0 = ms.getD j 0) : fitB xs xb ks ms = false := by
  refine fit_at hi ?_
  unfold fitI
  have : ((List.range i).all fun j => sameI xb ks ms i j) = false := by
    refine Bool.eq_false_iff.2 fun hn => ?_
    have := List.all_eq_true.1 hn j (List.mem_range.2 hj)
    unfold sameI at this
    rw [h1, h2, decide_eq_true h3, decide_eq_false h4] at this
    cases this
  rw [this, Bool.and_false]
theorem fit_ok (h1 : lenB xs xb ks ms = true) (h2 : ∀ i, i < xs.length → fitI xb ks ms i = true) : fitB xs xb ks ms = true := by
  unfold fitB
  rw [h1, Bool.true_and]
  exact List.all_eq_true.2 fun i hi => h2 i (List.mem_range.1 hi)
theorem fitI_of {i : Nat} (h1 : rgM (ms.getD i 0) (xb.getD i false) = true) (h2 : ∀ j, j < i → sameI xb ks ms i j = true) : fitI xb ks ms i = true := by
  unfold fitI
  rw [h1, Bool.true_and]
  exact List.all_eq_true.2 fun j hj => h2 j (List.mem_range.1 hj)
theorem fit_use (h : fitB xs xb ks ms = true) : nod xs = true ∧ xb.length = xs.length ∧ ks.length = xs.length ∧ ms.length = xs.length ∧ (∀ i, i < xs.length → rgM (ms.getD i 0) (xb.getD i false) = true) ∧ ∀ i j, i < xs.length → j < i → sameI xb ks ms i j = true := by
  unfold fitB lenB ordB at h
  simp only [Bool.and_eq_true, decide_eq_true_eq, List.all_eq_true, List.mem_range] at h
  obtain ⟨⟨⟨⟨h1, h2⟩, h3⟩, h4⟩, h5⟩ := h
  refine ⟨h1, h2, h3, h4, fun i hi => ?_, fun i j hi hj => ?_⟩
  · have := h5 i hi
    unfold fitI at this
    exact (Bool.and_eq_true_iff.1 this).1
  · have := h5 i hi
    unfold fitI at this
    exact List.all_eq_true.1 (Bool.and_eq_true_iff.1 this).2 j (List.mem_range.2 hj)
def MrkM (xb : List Bool) (ks : List (List UInt8)) (ms : List Int) (i : Nat) (ml : List (List UInt8 × Value)) : Prop :=
  (∀ p ∈ ml, p.1.length = 16) ∧ (∀ j, j < i → xb.getD j false = true → aget ml (ks.getD j []) = some (vi (ms.getD j 0))) ∧ ∀ key v, aget ml key = some v → ∃ j, j < i ∧ xb.getD j false = true ∧ ks.getD j [] = key ∧ v = vi (ms.getD j 0)
theorem MrkM.start : MrkM xb ks ms 0 [] := ⟨fun p h => (by cases h), fun j h => absurd h (by omega), fun key v h => by cases h⟩
theorem MrkM.skip {i : Int} {ml : List (List UInt8 × Value)} (h : MrkM xb ks ms i.toNat ml) (hi : 0 ≤ i) (hb : xb.getD i.toNat false = false) : MrkM xb ks ms (i + 1).toNat ml := by
  rw [show (i + 1).toNat = i.toNat + 1 by omega]
  refine ⟨h.1, fun j hj hb' => ?_, fun key v hv => ?_⟩
  · rcases Nat.lt_or_ge j i.toNat with h' | h'
    · exact h.2.1 j h' hb'
    · obtain rfl : j = i.toNat := by omega
      rw [hb] at hb'; cases hb'
  · obtain ⟨j, h1, h2⟩ := h.2.2 key v hv
    exact ⟨j, by omega, h2⟩
theorem aset_keys {α : Type} [DecidableEq α] {V : α → Prop} {a : α} {v : Value} {l : List (α × Value)} (h : ∀ p ∈ l, V p.1) (ha : V a) : ∀ p ∈ aset a v l, V p.1 := fun p hp => by
  have : p.1 ∈ (aset a v l).map (·.1) := List.mem_map.2 ⟨p, hp, rfl⟩
  rcases (aset_mem a p.1 v l).1 this with e | e
  · rw [e]; exact ha
  · obtain ⟨q, hq, e⟩ := List.mem_map.1 e
    rw [← e]; exact h q hq
theorem MrkM.step {i : Int} {ml : List (List UInt8 × Value)} (h : MrkM xb ks ms i.toNat ml) (hi : 0 ≤ i) (hb : xb.getD i.toNat false = true) (hk : (ks.getD i.toNat []).length = 16) (hs : ∀ j, j < i.toNat → sameI xb ks ms i.toNat j = true) : MrkM xb ks ms (i + 1).toNat (aset (ks.getD i.toNat []) (vi (ms.getD i.toNat 0)) ml) := by
  rw [show (i + 1).toNat = i.toNat + 1 by omega]
  refine ⟨aset_keys (V := fun (l : List UInt8) => l.length = 16) h.1 hk, fun j hj hb' => ?_, fun key v hv => ?_⟩
  · rw [aget_aset]
    rcases Nat.lt_or_ge j i.toNat with h' | h'
    · by_cases he : ks.getD j [] = ks.getD i.toNat []
      · rw [if_pos he]
        have := hs j h'
        unfold sameI at this
        rw [hb, hb', decide_eq_true he.symm] at this
        simp only [Bool.and_self, Bool.not_true, Bool.false_or, decide_eq_true_eq] at this
        rw [this]
      · rw [if_neg he]; exact h.2.1 j h' hb'
    · obtain rfl : j = i.toNat := by omega
      rw [if_pos rfl]
  · rw [aget_aset] at hv
    by_cases he : key = ks.getD i.toNat []
    · rw [if_pos he] at hv
      exact ⟨i.toNat, by omega, hb, he.symm, (Option.some.inj hv).symm⟩
    · rw [if_neg he] at hv
      obtain ⟨j, h1, h2⟩ := h.2.2 key v hv
      exact ⟨j, by omega, h2⟩
/-- What the map tells of a key. -/
theorem MrkM.ask {i : Nat} {ml : List (List UInt8 × Value)} (h : MrkM xb ks ms i ml) (key : List UInt8) : ∃ (ok : Bool) (old : Int), (aget ml key).getD (vi 0) = vi old ∧ (aget ml key).isSome = ok ∧ (ok = true → ∃ j, j < i ∧ xb.getD j false = true ∧ ks.getD j [] = key ∧ old = ms.getD j 0) ∧ (ok = false → ∀ j, j < i → xb.getD j false = true → ks.getD j [] ≠ key) ∧ (ok = true → ∀ j, j < i → xb.getD j false = true → ks.getD j [] = key → old = ms.getD j 0) := by
  cases hg : aget ml key with
  | none =>
    refine ⟨false, 0, rfl, rfl, fun h => (by cases h), fun _ j h1 h2 h3 => ?_, fun h => by cases h⟩
    have := h.2.1 j h1 h2
    rw [h3, hg] at this
    cases this
  | some v =>
    obtain ⟨j, h1, h2, h3, rfl⟩ := h.2.2 key v hg
    refine ⟨true, ms.getD j 0, rfl, rfl, fun _ => ⟨j, h1, h2, h3, rfl⟩, fun h => (by cases h), fun _ t h4 h5 h6 => ?_⟩
    have := h.2.1 t h4 h5
    rw [h6, hg] at this
    exact (Value.int.inj (Option.some.inj this)).2
end
end Go.Fw.Hu
end

section
/- hunt: what is covered, and the sets that are left. -/
namespace Go.Fw.Hu
open Gu
theorem dec_nat (a b : Nat) : decide ((a : Int) = (b : Int)) = decide (a = b) := by rw [decide_eq_decide]; omega
def blw (a b : Int) : Bool := !decide (a = b) && wi a b
def cvj (xs : List Int) (xb : List Bool) (ms : List Int) (x : Int) (j : Nat) : Bool := (xb.getD j false && decide (ms.getD j 0 = 2)) && blw (xs.getD j 0) x
def cov (xs : List Int) (xb : List Bool) (ms : List Int) (i : Nat) : Bool := (List.range xs.length).any (cvj xs xb ms (xs.getD i 0))
def fre (xs : List Int) (xb : List Bool) (ms : List Int) (i : Nat) : Bool := xb.getD i false && !cov xs xb ms i
theorem any_at {p : Nat → Bool} {n i : Nat} (hi : i < n) (h : p i = true) : (List.range n).any p = true := List.any_eq_true.2 ⟨i, List.mem_range.2 hi, h⟩
theorem any_step {p : Nat → Bool} {i : Int} (hi : 0 ≤ i) (h : (List.range i.toNat).any p = false) (hp : p i.toNat = false) : (List.range (i + 1).toNat).any p = false := by
  rw [show (i + 1).toNat = i.toNat + 1 by omega, any_succ, h, hp]; rfl
/-- The sets that are left, in their order. -/
def frl (xs : List Int) (xb : List Bool) (ms : List Int) : List Nat := (List.range xs.length).filter (fre xs xb ms)
def fcn (xs : List Int) (xb : List Bool) (ms : List Int) (i : Nat) : Nat := ((List.range i).filter (fre xs xb ms)).length
section
variable {xs : List Int} {xb : List Bool} {ms : List Int}
theorem fcn_t {i : Nat} (h : fre xs xb ms i = true) : fcn xs xb ms (i + 1) = fcn xs xb ms i + 1 := by
  unfold fcn
  rw [List.range_succ, List.filter_append, List.length_append, List.filter_cons_of_pos h]
  rfl
theorem fcn_f {i : Nat} (h : fre xs xb ms i = false) : fcn xs xb ms (i + 1) = fcn xs xb ms i := by
  unfold fcn
  rw [List.range_succ, List.filter_append, List.length_append, List.filter_cons_of_neg (by rw [h]; decide)]
  rfl
theorem range_pre {i n : Nat} (h : i < n) : ∃ t, List.range n = List.range i ++ i :: t := by
  refine ⟨(List.range n).drop (i + 1), ?_⟩
  have h1 : List.range i = (List.range n).take i := by
    rw [List.take_range, Nat.min_eq_left (by omega)]
  rw [h1]
  have h2 : (List.range n).drop i = i :: (List.range n).drop (i + 1) := by
    rw [List.drop_eq_getElem_cons (by simpa using h)]
    simp
  rw [← h2, List.take_append_drop]
theorem frl_at {i : Nat} (hi : i < xs.length) (h : fre xs xb ms i = true) : fcn xs xb ms i < (frl xs xb ms).length ∧ (frl xs xb ms).getD (fcn xs xb ms i) 0 = i := by
  obtain ⟨t, ht⟩ := range_pre hi
  unfold frl fcn
  rw [ht, List.filter_append, List.filter_cons_of_pos h]
  refine ⟨by simp, ?_⟩
  rw [List.getD_eq_getElem?_getD, List.getElem?_append_right (Nat.le_refl _), Nat.sub_self]
  rfl
theorem fcn_all : fcn xs xb ms xs.length = (frl xs xb ms).length := rfl
theorem frl_get {k : Nat} (h : k < (frl xs xb ms).length) : (frl xs xb ms).getD k 0 < xs.length ∧ fre xs xb ms ((frl xs xb ms).getD k 0) = true := by
  have hm : (frl xs xb ms).getD k 0 ∈ frl xs xb ms := by
    rw [List.getD_eq_getElem?_getD, List.getElem?_eq_getElem h]
    exact List.getElem_mem h
  obtain ⟨h1, h2⟩ := List.mem_filter.1 hm
  exact ⟨List.mem_range.1 h1, h2⟩
theorem frl_mem {i : Nat} : i ∈ frl xs xb ms ↔ i < xs.length ∧ fre xs xb ms i = true := by
  unfold frl
  rw [List.mem_filter, List.mem_range]
end
/-! ### lengths -/
theorem lenB_no {xs : List Int} {xb : List Bool} {ks : List (List UInt8)} {ms : List Int} (h : (ordB xs xb = false ∨ ¬ (ks.length : Int) = xs.length) ∨ ¬ (ms.length : Int) = xs.length) : lenB xs xb ks ms = false := by
  unfold lenB
  rcases h with (h | h) | h
  · rw [h]; rfl
  · rw [decide_eq_false (show ¬ ks.length = xs.length by omega)]; simp
  · rw [decide_eq_false (show ¬ ms.length = xs.length by omega)]; simp
theorem lenB_ok {xs : List Int} {xb : List Bool} {ks : List (List UInt8)} {ms : List Int} (h : (ordB xs xb = true ∧ (ks.length : Int) = xs.length) ∧ (ms.length : Int) = xs.length) : lenB xs xb ks ms = true := by
  unfold lenB
  rw [h.1.1, decide_eq_true (show ks.length = xs.length by omega), decide_eq_true (show ms.length = xs.length by omega)]
  rfl
theorem ordB_len {xs : List Int} {xb : List Bool} (h : ordB xs xb = true) : xb.length = xs.length := of_decide_eq_true (Bool.and_eq_true_iff.1 h).2
end Go.Fw.Hu
end

section
namespace Go.Fw.Hu
open Gu
theorem rg_ok {m : Int} {b : Bool} (h : (¬ m < 0 ∧ ¬ 2 < m) ∧ (b = true ∨ m = 0)) : rgM m b = true := by
  unfold rgM
  rw [decide_eq_true (show 0 ≤ m by omega), decide_eq_true (show m ≤ 2 by omega)]
  rcases h.2 with h | h
  · rw [h]; rfl
  · rw [decide_eq_true h]; simp
theorem same_all {xb : List Bool} {ks : List (List UInt8)} {ms : List Int} {i : Nat} {ok : Bool} {old : Int} (hb : xb.getD i false = true) (h : ok = false ∨ old = ms.getD i 0) (h4 : ok = false → ∀ j, j < i → xb.getD j false = true → ks.getD j [] ≠ ks.getD i []) (h5 : ok = true → ∀ j, j < i → xb.getD j false = true → ks.getD j [] = ks.getD i [] → old = ms.getD j 0) : ∀ j, j < i → sameI xb ks ms i j = true := fun j hj => by
  unfold sameI
  cases hbj : xb.getD j false with
  | false => simp
  | true =>
    by_cases he : ks.getD i [] = ks.getD j []
    · cases hok : ok with
      | false => exact absurd he.symm (h4 hok j hj hbj)
      | true =>
        have h6 := h5 hok j hj hbj he.symm
        rw [hok] at h
        rcases h with h | h
        · cases h
        · rw [← h, ← h6]; simp
    · rw [decide_eq_false he]; simp
theorem cvj_f {xs : List Int} {xb : List Bool} {ms : List Int} {x : Int} {j : Nat} (h : (xb.getD j false = false ∨ ¬ ms.getD j 0 = 2) ∨ blw (xs.getD j 0) x = false) : cvj xs xb ms x j = false := by
  unfold cvj
  rcases h with (h | h) | h
  · rw [h]; rfl
  · rw [decide_eq_false h]; simp
  · rw [h]; simp
theorem cvj_t {xs : List Int} {xb : List Bool} {ms : List Int} {x : Int} {j : Nat} (h : (xb.getD j false = true ∧ ms.getD j 0 = 2) ∧ blw (xs.getD j 0) x = true) : cvj xs xb ms x j = true := by
  unfold cvj
  rw [h.1.1, h.1.2, h.2]; rfl
end Go.Fw.Hu
end

section
/- hunt: the first sets of the classes. -/
namespace Go.Fw.Hu
open Gu
section
variable (xs : List Int) (xb : List Bool) (ks : List (List UInt8)) (ms : List Int) (want : Int → Bool)
def opB (key : List UInt8) : Bool := (frl xs xb ms).any fun i => want (ms.getD i 0) && decide (ks.getD i [] = key)
def erl (i : Nat) (key : List UInt8) : Bool := (List.range i).any fun j => xb.getD j false && decide (ks.getD j [] = key)
def clsL : Nat → List Int
  | 0 => []
  | k + 1 => if (xb.getD k false && opB xs xb ks ms want (ks.getD k [])) && !erl xb ks k (ks.getD k []) then clsL k ++ [xs.getD k 0] else clsL k
def OpM (p : List UInt8 → Bool) (ml : List (List UInt8 × Value)) : Prop := (∀ q ∈ ml, q.1.length = 16) ∧ (ml.map (·.1)).Nodup ∧ (∀ q ∈ ml, q.2 = .bool true) ∧ ∀ key, key ∈ ml.map (·.1) ↔ p key = true
def opK (k : Nat) (key : List UInt8) : Bool := ((frl xs xb ms).take k).any fun i => want (ms.getD i 0) && decide (ks.getD i [] = key)
end
theorem clsL_len (xs : List Int) (xb : List Bool) (ks : List (List UInt8)) (ms : List Int) (want : Int → Bool) : ∀ k, (clsL xs xb ks ms want k).length ≤ k
  | 0 => Nat.le_refl _
  | k + 1 => by
    have := clsL_len xs xb ks ms want k
    unfold clsL
    split
    · simp; omega
    · omega
theorem clsL_mem {xs : List Int} {xb : List Bool} {ks : List (List UInt8)} {ms : List Int} {want : Int → Bool} : ∀ k, k ≤ xs.length → ∀ x ∈ clsL xs xb ks ms want k, x ∈ xs
  | 0, _, x, h => by cases h
  | k + 1, hk, x, h => by
    unfold clsL at h
    split at h
    · rcases List.mem_append.1 h with h | h
      · exact clsL_mem k (by omega) x h
      · rw [List.mem_singleton.1 h]; exact getD_mem' (by omega)
    · exact clsL_mem k (by omega) x h
theorem OpM.ask {p : List UInt8 → Bool} {ml : List (List UInt8 × Value)} (h : OpM p ml) (key : List UInt8) : (aget ml key).getD (.bool false) = .bool (p key) := by
  cases hg : aget ml key with
  | none =>
    have : p key = false := Bool.eq_false_iff.2 fun hp => by
      have := aget_some.2 ((h.2.2.2 key).2 hp)
      rw [hg] at this
      cases this
    rw [this]; rfl
  | some v =>
    have h1 := aget_mem hg
    have h2 : p key = true := (h.2.2.2 key).1 (List.mem_map.2 ⟨_, h1, rfl⟩)
    rw [h2]
    exact h.2.2.1 _ h1
theorem OpM.start {p : List UInt8 → Bool} (hp : ∀ key, p key = false) : OpM p [] := ⟨fun q h => (by cases h), List.nodup_nil, fun q h => (by cases h), fun key => by simp [hp key]⟩
theorem OpM.put {p q : List UInt8 → Bool} {ml : List (List UInt8 × Value)} {a : List UInt8} (h : OpM p ml) (ha : a.length = 16) (hq : ∀ key, q key = (p key || decide (key = a))) : OpM q (aset a (.bool true) ml) := by
  refine ⟨aset_keys (V := fun (l : List UInt8) => l.length = 16) h.1 ha, aset_nodup h.2.1, fun x hx => ?_, fun key => ?_⟩
  · have : ∀ l : List (List UInt8 × Value), (∀ q ∈ l, q.2 = .bool true) → ∀ q ∈ aset a (.bool true) l, q.2 = .bool true := by
      intro l
      induction l with
      | nil => intro _ q hq; simp [aset] at hq; rw [hq]
      | cons y l ih =>
        intro hl q hq
        rw [aset] at hq
        split at hq
        · rcases List.mem_cons.1 hq with rfl | hq
          · rfl
          · exact hl q (List.mem_cons_of_mem _ hq)
        · rcases List.mem_cons.1 hq with rfl | hq
          · exact hl _ List.mem_cons_self
          · exact ih (fun z hz => hl z (List.mem_cons_of_mem _ hz)) q hq
    exact this ml h.2.2.1 x hx
  · rw [aset_mem, h.2.2.2, hq, Bool.or_eq_true, decide_eq_true_eq]
    exact Or.comm
theorem OpM.cut {p q : List UInt8 → Bool} {ml : List (List UInt8 × Value)} {a : List UInt8} (h : OpM p ml) (hq : ∀ key, q key = (p key && !decide (key = a))) : OpM q (adel a ml) := by
  have hk := fun y => (adel_keys (a := a) (y := y) h.2.1).1
  have hsub : ∀ x ∈ adel a ml, x ∈ ml := fun x hx => by
    unfold adel at hx
    split at hx
    · exact List.mem_of_mem_eraseIdx hx
    · exact hx
  refine ⟨fun x hx => h.1 x (hsub x hx), (adel_keys (a := a) (y := a) h.2.1).2, fun x hx => h.2.2.1 x (hsub x hx), fun key => ?_⟩
  rw [hk, h.2.2.2, hq, Bool.and_eq_true, Bool.not_eq_true', decide_eq_false_iff_not]
theorem OpM.of {p q : List UInt8 → Bool} {ml : List (List UInt8 × Value)} (h : OpM p ml) (hq : ∀ key, q key = p key) : OpM q ml := ⟨h.1, h.2.1, h.2.2.1, fun key => by rw [h.2.2.2, hq]⟩
section
variable {xs : List Int} {xb : List Bool} {ks : List (List UInt8)} {ms : List Int} {want : Int → Bool}
theorem take_frl {k : Nat} (h : k < (frl xs xb ms).length) : (frl xs xb ms).take (k + 1) = (frl xs xb ms).take k ++ [(frl xs xb ms).getD k 0] := by
  rw [List.take_succ_eq_append_getElem h, List.getD_eq_getElem?_getD, List.getElem?_eq_getElem h]
  rfl
theorem opK_0 (key : List UInt8) : opK xs xb ks ms want 0 key = false := by unfold opK; rw [List.take_zero]; rfl
theorem opK_t {k : Nat} {i : Int} (h : k < (frl xs xb ms).length) (hi : i = (((frl xs xb ms).getD k 0 : Nat) : Int)) (hw : want (ms.getD i.toNat 0) = true) (key : List UInt8) : opK xs xb ks ms want (k + 1) key = (opK xs xb ks ms want k key || decide (key = ks.getD i.toNat [])) := by
  subst hi
  unfold opK
  rw [take_frl h, List.any_append]
  rw [Int.toNat_natCast] at *
  simp only [List.any_cons, List.any_nil, Bool.or_false, hw, Bool.true_and]
  congr 1
  rw [decide_eq_decide]
  exact eq_comm
theorem opK_f {k : Nat} {i : Int} (h : k < (frl xs xb ms).length) (hi : i = (((frl xs xb ms).getD k 0 : Nat) : Int)) (hw : want (ms.getD i.toNat 0) = false) (key : List UInt8) : opK xs xb ks ms want (k + 1) key = opK xs xb ks ms want k key := by
  subst hi
  unfold opK
  rw [take_frl h, List.any_append]
  rw [Int.toNat_natCast] at *
  simp only [List.any_cons, List.any_nil, Bool.or_false, hw, Bool.false_and]
theorem opK_all (key : List UInt8) : opK xs xb ks ms want (frl xs xb ms).length key = opB xs xb ks ms want key := by unfold opK opB; rw [List.take_length]
theorem erl_succ (i : Nat) (key : List UInt8) : erl xb ks (i + 1) key = (erl xb ks i key || (xb.getD i false && decide (ks.getD i [] = key))) := any_succ _ _
/-- What is open before i. -/
def lft (xs : List Int) (xb : List Bool) (ks : List (List UInt8)) (ms : List Int) (want : Int → Bool) (i : Nat) (key : List UInt8) : Bool := opB xs xb ks ms want key && !erl xb ks i key
theorem lft_0 (key : List UInt8) : lft xs xb ks ms want 0 key = opB xs xb ks ms want key := by
  unfold lft
  rw [show erl xb ks 0 key = false from rfl]; simp
theorem lft_t {i : Int} (hi : 0 ≤ i) (h : xb.getD i.toNat false = true) (key : List UInt8) : lft xs xb ks ms want (i + 1).toNat key = (lft xs xb ks ms want i.toNat key && !decide (key = ks.getD i.toNat [])) := by
  rw [show (i + 1).toNat = i.toNat + 1 by omega]
  unfold lft
  rw [erl_succ, h, Bool.true_and, Bool.not_or, Bool.and_assoc]
  congr 3
  rw [decide_eq_decide]
  exact eq_comm
theorem lft_f {i : Int} (hi : 0 ≤ i) (h : xb.getD i.toNat false = false ∨ lft xs xb ks ms want i.toNat (ks.getD i.toNat []) = false) (key : List UInt8) : lft xs xb ks ms want (i + 1).toNat key = lft xs xb ks ms want i.toNat key := by
  rcases h with h | h
  · rw [show (i + 1).toNat = i.toNat + 1 by omega]
    unfold lft
    rw [erl_succ, h, Bool.false_and, Bool.or_false]
  · by_cases hb : xb.getD i.toNat false = true
    · rw [lft_t hi hb]
      by_cases hk : key = ks.getD i.toNat []
      · subst hk; rw [h]; rfl
      · rw [decide_eq_false hk]; simp
    · rw [show (i + 1).toNat = i.toNat + 1 by omega]
      unfold lft
      rw [erl_succ, Bool.eq_false_iff.2 hb, Bool.false_and, Bool.or_false]
theorem cls_t {i : Int} (hi : 0 ≤ i) (h : xb.getD i.toNat false = true ∧ lft xs xb ks ms want i.toNat (ks.getD i.toNat []) = true) : clsL xs xb ks ms want (i + 1).toNat = clsL xs xb ks ms want i.toNat ++ [xs.getD i.toNat 0] := by
  rw [show (i + 1).toNat = i.toNat + 1 by omega, clsL, if_pos]
  have h2 := h.2
  unfold lft at h2
  rw [h.1, Bool.true_and]
  exact h2
theorem cls_f {i : Int} (hi : 0 ≤ i) (h : xb.getD i.toNat false = false ∨ lft xs xb ks ms want i.toNat (ks.getD i.toNat []) = false) : clsL xs xb ks ms want (i + 1).toNat = clsL xs xb ks ms want i.toNat := by
  rw [show (i + 1).toNat = i.toNat + 1 by omega, clsL, if_neg]
  rcases h with h | h
  · rw [h]; simp
  · unfold lft at h
    cases hb : xb.getD i.toNat false with
    | false => simp
    | true => rw [Bool.true_and, h]; decide
end
end Go.Fw.Hu
end

section
/- hunt: what is asked next, what is open, what is found. -/
namespace Go.Fw.Hu
open Gu
/-! ### the number of ones, as the library reckons it -/
def shr (x : UInt64) (k : Int) : UInt64 := UInt64.ofNat (x.toNat / 2 ^ min k.toNat 64)
def o1 (x : UInt64) : UInt64 := (shr x 1 &&& 6148914691236517205) + (x &&& 6148914691236517205)
def o2 (x : UInt64) : UInt64 := (shr x 2 &&& 3689348814741910323) + (x &&& 3689348814741910323)
def o3 (x : UInt64) : UInt64 := (shr x 4 + x) &&& 1085102592571150095
def o4 (x : UInt64) (k : Int) : UInt64 := x + shr x k
def ocv (x : UInt64) : Int := iand (sgn (o4 (o4 (o4 (o3 (o2 (o1 x))) 8) 16) 32)) 127
def szF (x : Int) : Int := ocv (ofq x)
/-! ### next -/
def bsN (xs ms : List Int) (b : Int) (i : Nat) : Int := if ms.getD i 0 = 0 ∧ (b < 0 ∨ szF (xs.getD i 0) < szF (xs.getD b.toNat 0)) then (i : Int) else b
def bst (xs ms : List Int) (l : List Nat) : Int := l.foldl (bsN xs ms) (-1)
def nxB (xs : List Int) (xb : List Bool) (ms : List Int) : Int := bst xs ms (frl xs xb ms)
def nxI (xs : List Int) (xb : List Bool) (ks : List (List UInt8)) (ms : List Int) : Int := if fitB xs xb ks ms then nxB xs xb ms else -1
def nxS (xs : List Int) (xb : List Bool) (ks : List (List UInt8)) (ms : List Int) : Int := if nxI xs xb ks ms < 0 then 0 else xs.getD (nxI xs xb ks ms).toNat 0
def nxO (xs : List Int) (xb : List Bool) (ks : List (List UInt8)) (ms : List Int) : Bool := !decide (nxI xs xb ks ms < 0)
def kE (xs : List Int) (xb : List Bool) (ks : List (List UInt8)) (ms : List Int) : Int := if fitB xs xb ks ms then 0 else 1
section
variable {xs : List Int} {xb : List Bool} {ks : List (List UInt8)} {ms : List Int}
theorem bst_rng : ∀ (l : List Nat) (n : Nat), (∀ i ∈ l, i < n) → -1 ≤ bst xs ms l ∧ bst xs ms l < n := by
  have key : ∀ (l : List Nat) (n : Nat) (b : Int), (∀ i ∈ l, i < n) → (-1 ≤ b ∧ b < n) → -1 ≤ l.foldl (bsN xs ms) b ∧ l.foldl (bsN xs ms) b < n := by
    intro l
    induction l with
    | nil => intro n b _ hb; exact hb
    | cons i l ih =>
      intro n b hl hb
      rw [List.foldl_cons]
      refine ih n _ (fun j hj => hl j (List.mem_cons_of_mem _ hj)) ?_
      have := hl i List.mem_cons_self
      unfold bsN
      split <;> omega
  intro l n hl
  exact key l n (-1) hl (by omega)
theorem frl_lt : ∀ i ∈ frl xs xb ms, i < xs.length := fun i hi => (frl_mem.1 hi).1
theorem bstk_rng (k : Nat) : -1 ≤ bst xs ms ((frl xs xb ms).take k) ∧ bst xs ms ((frl xs xb ms).take k) < xs.length := bst_rng _ _ fun i hi => frl_lt i (List.mem_of_mem_take hi)
theorem bst_t {k : Nat} {i : Int} {b : Int} (h : k < (frl xs xb ms).length) (hi : i = (((frl xs xb ms).getD k 0 : Nat) : Int)) (hb : b = bst xs ms ((frl xs xb ms).take k)) (hc : ms.getD i.toNat 0 = 0 ∧ (b < 0 ∨ szF (xs.getD i.toNat 0) < szF (xs.getD b.toNat 0))) : bst xs ms ((frl xs xb ms).take (k + 1)) = i := by
  subst hi hb
  rw [take_frl h]
  unfold bst at hc ⊢
  rw [List.foldl_append, List.foldl_cons, List.foldl_nil, bsN, if_pos]
  simpa using hc
theorem bst_f {k : Nat} {i : Int} {b : Int} (h : k < (frl xs xb ms).length) (hi : i = (((frl xs xb ms).getD k 0 : Nat) : Int)) (hb : b = bst xs ms ((frl xs xb ms).take k)) (hc : ¬ (ms.getD i.toNat 0 = 0 ∧ (b < 0 ∨ szF (xs.getD i.toNat 0) < szF (xs.getD b.toNat 0)))) : bst xs ms ((frl xs xb ms).take (k + 1)) = b := by
  subst hi hb
  rw [take_frl h]
  unfold bst at hc ⊢
  rw [List.foldl_append, List.foldl_cons, List.foldl_nil, bsN, if_neg]
  · simpa using hc
theorem kE_f (h : fitB xs xb ks ms = false) : kE xs xb ks ms = 1 := by unfold kE; rw [h]; rfl
theorem kE_t (h : fitB xs xb ks ms = true) : kE xs xb ks ms = 0 := by unfold kE; rw [h]; rfl
theorem nx_f (h : fitB xs xb ks ms = false) : nxI xs xb ks ms = -1 := by unfold nxI; rw [h]; rfl
theorem nx_t (h : fitB xs xb ks ms = true) : nxI xs xb ks ms = nxB xs xb ms := by unfold nxI; rw [h]; rfl
theorem nxT (h : fitB xs xb ks ms = false) : Value.tuple #[vi 0, .bool false, vi 1] = .tuple #[vi (nxS xs xb ks ms), .bool (nxO xs xb ks ms), vi (kE xs xb ks ms)] := by
  unfold nxS nxO
  rw [nx_f h, kE_f h]; rfl
theorem nxT0 (h : fitB xs xb ks ms = true) (h2 : nxB xs xb ms < 0) : Value.tuple #[vi 0, .bool false, vi 0] = .tuple #[vi (nxS xs xb ks ms), .bool (nxO xs xb ks ms), vi (kE xs xb ks ms)] := by
  unfold nxS nxO
  rw [nx_t h, kE_t h, if_pos h2, decide_eq_true h2]; rfl
theorem nxT1 (h : fitB xs xb ks ms = true) (h2 : ¬ nxB xs xb ms < 0) : Value.tuple #[vi (xs.getD (nxB xs xb ms).toNat 0), .bool true, vi 0] = .tuple #[vi (nxS xs xb ks ms), .bool (nxO xs xb ks ms), vi (kE xs xb ks ms)] := by
  unfold nxS nxO
  rw [nx_t h, kE_t h, if_neg h2, decide_eq_false h2]; rfl
end
/-! ### open, needed -/
def clsQ (xs : List Int) (xb : List Bool) (ks : List (List UInt8)) (ms : List Int) (want : Int → Bool) : List Int := if fitB xs xb ks ms then clsL xs xb ks ms want xs.length else []
def isO (m : Int) : Bool := decide (m = 0)
def isN (m : Int) : Bool := !decide (m = 0)
def opnL (xs : List Int) (xb : List Bool) (ks : List (List UInt8)) (ms : List Int) : List Int := clsQ xs xb ks ms isO
def ndL (xs : List Int) (xb : List Bool) (ks : List (List UInt8)) (ms : List Int) : List Int := clsQ xs xb ks ms isN
def dnB (xs : List Int) (xb : List Bool) (ks : List (List UInt8)) (ms : List Int) : Bool := fitB xs xb ks ms && decide ((opnL xs xb ks ms).length = 0)
/-! ### found -/
def fdj (xs : List Int) (xb : List Bool) (ms : List Int) (x : Int) (j : Nat) : Bool := !((xb.getD j false && blw (xs.getD j 0) x) && !decide (ms.getD j 0 = 1))
def fdk (xs : List Int) (xb : List Bool) (ms : List Int) (i j : Nat) : Bool := decide (ms.getD i 0 = 2) && (List.range j).all (fdj xs xb ms (xs.getD i 0))
def fdL (xs : List Int) (xb : List Bool) (ms : List Int) : Nat → List Int
  | 0 => []
  | k + 1 => if fdk xs xb ms k xs.length then fdL xs xb ms k ++ [xs.getD k 0] else fdL xs xb ms k
def fndL (xs : List Int) (xb : List Bool) (ks : List (List UInt8)) (ms : List Int) : List Int := if fitB xs xb ks ms then fdL xs xb ms xs.length else []
theorem fdk_0 (xs : List Int) (xb : List Bool) (ms : List Int) (i : Nat) : fdk xs xb ms i 0 = decide (ms.getD i 0 = 2) := by unfold fdk; simp
theorem fdk_succ (xs : List Int) (xb : List Bool) (ms : List Int) (i j : Nat) : fdk xs xb ms i (j + 1) = (fdk xs xb ms i j && fdj xs xb ms (xs.getD i 0) j) := by
  unfold fdk
  rw [List.range_succ, List.all_append, Bool.and_assoc]
  simp
theorem fdL_len (xs : List Int) (xb : List Bool) (ms : List Int) : ∀ k, (fdL xs xb ms k).length ≤ k
  | 0 => Nat.le_refl _
  | k + 1 => by
    have := fdL_len xs xb ms k
    unfold fdL
    split
    · simp; omega
    · omega
theorem fdL_mem {xs : List Int} {xb : List Bool} {ms : List Int} : ∀ k, k ≤ xs.length → ∀ x ∈ fdL xs xb ms k, x ∈ xs
  | 0, _, x, h => by cases h
  | k + 1, hk, x, h => by
    unfold fdL at h
    split at h
    · rcases List.mem_append.1 h with h | h
      · exact fdL_mem k (by omega) x h
      · rw [List.mem_singleton.1 h]; exact getD_mem' (by omega)
    · exact fdL_mem k (by omega) x h
theorem fdL_t {xs : List Int} {xb : List Bool} {ms : List Int} {i : Int} (hi : 0 ≤ i) (h : fdk xs xb ms i.toNat xs.length = true) : fdL xs xb ms (i + 1).toNat = fdL xs xb ms i.toNat ++ [xs.getD i.toNat 0] := by
  rw [show (i + 1).toNat = i.toNat + 1 by omega, fdL, if_pos h]
theorem fdL_f {xs : List Int} {xb : List Bool} {ms : List Int} {i : Int} (hi : 0 ≤ i) (h : fdk xs xb ms i.toNat xs.length = false) : fdL xs xb ms (i + 1).toNat = fdL xs xb ms i.toNat := by
  rw [show (i + 1).toNat = i.toNat + 1 by omega, fdL, if_neg (by rw [h]; decide)]
end Go.Fw.Hu
namespace Go.Fw.Hu
theorem dn_eq {xs : List Int} {xb : List Bool} {ks : List (List UInt8)} {ms : List Int} : Value.tuple #[.bool (decide (kE xs xb ks ms = 0) && decide (((opnL xs xb ks ms).length : Int) = 0)), vi (kE xs xb ks ms)] = .tuple #[.bool (dnB xs xb ks ms), vi (kE xs xb ks ms)] := by
  unfold dnB
  have e1 : decide (kE xs xb ks ms = 0) = fitB xs xb ks ms := by
    unfold kE
    cases fitB xs xb ks ms <;> rfl
  have e2 : decide (((opnL xs xb ks ms).length : Int) = 0) = decide ((opnL xs xb ks ms).length = 0) := by rw [decide_eq_decide]; omega
  rw [e1, e2]
end Go.Fw.Hu
end

section
/- hunt: New and Tell. -/
namespace Go.Fw.Hu
open Gu
abbrev KN := List (List UInt8) × List Int × Int
def newK (xs : List Int) (xb : List Bool) (ks : List (List UInt8)) : KN := if ordB xs xb && decide (ks.length = xs.length) then (ks, List.replicate ks.length 0, 0) else ([], [], 1)
def tlm (xb : List Bool) (ks : List (List UInt8)) (ms : List Int) (at_ mark : Int) (i : Nat) : List Int := (List.range ms.length).map fun j => if decide (j < i) && (xb.getD j false && decide (ks.getD j [] = ks.getD at_.toNat [])) then mark else ms.getD j 0
def markOf (bad : Bool) : Int := if bad then 2 else 1
def telK (xs : List Int) (xb : List Bool) (ks : List (List UInt8)) (ms : List Int) (s : Int) (bad : Bool) : KN :=
  if fitB xs xb ks ms then
    if ixF (fun y => decide (s = y)) xs < 0 ∨ xb.getD (ixF (fun y => decide (s = y)) xs).toNat false = false then ([], [], 6)
    else if ms.getD (ixF (fun y => decide (s = y)) xs).toNat 0 ≠ 0 ∧ ms.getD (ixF (fun y => decide (s = y)) xs).toNat 0 ≠ markOf bad then ([], [], 14)
    else (ks, tlm xb ks ms (ixF (fun y => decide (s = y)) xs) (markOf bad) xs.length, 0)
  else ([], [], 1)
section
variable {xs : List Int} {xb : List Bool} {ks : List (List UInt8)} {ms : List Int} {at_ mark : Int}
theorem tlm_len (i : Nat) : (tlm xb ks ms at_ mark i).length = ms.length := by simp [tlm]
theorem tlm_0 : tlm xb ks ms at_ mark 0 = ms := by
  apply List.ext_getElem (by simp [tlm])
  intro j h1 h2
  simp [tlm, h2]
theorem tlm_t {i : Int} (hi : 0 ≤ i ∧ i < ms.length) (h : xb.getD i.toNat false = true ∧ ks.getD i.toNat [] = ks.getD at_.toNat []) : tlm xb ks ms at_ mark (i + 1).toNat = (tlm xb ks ms at_ mark i.toNat).set i.toNat mark := by
  rw [show (i + 1).toNat = i.toNat + 1 by omega]
  apply List.ext_getElem (by simp [tlm])
  intro j h1 h2
  rw [List.getElem_set]
  simp only [tlm, List.getElem_map, List.getElem_range]
  by_cases hj : i.toNat = j
  · subst hj
    rw [if_pos rfl, decide_eq_true (by omega), h.1, decide_eq_true h.2]
    rfl
  · rw [if_neg hj]
    have : decide (j < i.toNat + 1) = decide (j < i.toNat) := by rw [decide_eq_decide]; omega
    rw [this]
theorem tlm_f {i : Int} (hi : 0 ≤ i) (h : xb.getD i.toNat false = false ∨ ¬ ks.getD i.toNat [] = ks.getD at_.toNat []) : tlm xb ks ms at_ mark (i + 1).toNat = tlm xb ks ms at_ mark i.toNat := by
  rw [show (i + 1).toNat = i.toNat + 1 by omega]
  apply List.ext_getElem (by simp [tlm])
  intro j h1 h2
  simp only [tlm, List.getElem_map, List.getElem_range]
  by_cases hj : i.toNat = j
  · subst hj
    rw [decide_eq_false (show ¬ i.toNat < i.toNat by omega)]
    rcases h with h | h
    · rw [h]; simp
    · rw [decide_eq_false h]; simp
  · have : decide (j < i.toNat + 1) = decide (j < i.toNat) := by rw [decide_eq_decide]; omega
    rw [this]
theorem markOf_rng (bad : Bool) : 1 ≤ markOf bad ∧ markOf bad ≤ 2 := by unfold markOf; split <;> omega
theorem tlm_rng (hm : ∀ x ∈ ms, -9223372036854775808 ≤ x ∧ x ≤ 9223372036854775807) (h : 1 ≤ mark ∧ mark ≤ 2) (i : Nat) : ∀ x ∈ tlm xb ks ms at_ mark i, -9223372036854775808 ≤ x ∧ x ≤ 9223372036854775807 := fun x hx => by
  obtain ⟨j, hj, rfl⟩ := List.mem_map.1 hx
  split
  · omega
  · exact hm _ (getD_mem' (List.mem_range.1 hj))
theorem telK_1 {s : Int} {bad : Bool} (h : fitB xs xb ks ms = false) : telK xs xb ks ms s bad = ([], [], 1) := by unfold telK; rw [h]; rfl
theorem telK_6 {s : Int} {bad : Bool} (h : fitB xs xb ks ms = true) (h2 : ixF (fun y => decide (s = y)) xs < 0 ∨ xb.getD (ixF (fun y => decide (s = y)) xs).toNat false = false) : telK xs xb ks ms s bad = ([], [], 6) := by unfold telK; rw [h, if_pos rfl, if_pos h2]
theorem telK_14 {s : Int} {bad : Bool} (h : fitB xs xb ks ms = true) (h2 : ¬ (ixF (fun y => decide (s = y)) xs < 0 ∨ xb.getD (ixF (fun y => decide (s = y)) xs).toNat false = false)) (h3 : ms.getD (ixF (fun y => decide (s = y)) xs).toNat 0 ≠ 0 ∧ ms.getD (ixF (fun y => decide (s = y)) xs).toNat 0 ≠ markOf bad) : telK xs xb ks ms s bad = ([], [], 14) := by unfold telK; rw [h, if_pos rfl, if_neg h2, if_pos h3]
theorem telK_0 {s : Int} {bad : Bool} (h : fitB xs xb ks ms = true) (h2 : ¬ (ixF (fun y => decide (s = y)) xs < 0 ∨ xb.getD (ixF (fun y => decide (s = y)) xs).toNat false = false)) (h3 : ¬ (ms.getD (ixF (fun y => decide (s = y)) xs).toNat 0 ≠ 0 ∧ ms.getD (ixF (fun y => decide (s = y)) xs).toNat 0 ≠ markOf bad)) : telK xs xb ks ms s bad = (ks, tlm xb ks ms (ixF (fun y => decide (s = y)) xs) (markOf bad) xs.length, 0) := by unfold telK; rw [h, if_pos rfl, if_neg h2, if_neg h3]
theorem newK_1 (h : ordB xs xb = false ∨ ¬ (ks.length : Int) = xs.length) : newK xs xb ks = ([], [], 1) := by
  unfold newK
  rw [if_neg]
  rcases h with h | h
  · rw [h]; simp
  · rw [decide_eq_false (show ¬ ks.length = xs.length by omega)]; simp
theorem newK_0 (h : ordB xs xb = true ∧ (ks.length : Int) = xs.length) : newK xs xb ks = (ks, List.replicate ks.length 0, 0) := by
  unfold newK
  rw [h.1, decide_eq_true (show ks.length = xs.length by omega)]; rfl
end
end Go.Fw.Hu
end

section
/- hunt: Run and Line. -/
namespace Go.Fw.Hu
open Gu
def ixS (xs : List Int) (s : Int) : Int := ixF (fun y => decide (s = y)) xs
def stp (xs : List Int) (xb : List Bool) (ks : List (List UInt8)) (bad : List Bool) (σ : List Int × List Int) : List Int × List Int :=
  if nxO xs xb ks σ.1 then ((telK xs xb ks σ.1 (nxS xs xb ks σ.1) (bad.getD (ixS xs (nxS xs xb ks σ.1)).toNat false)).2.1, σ.2 ++ [nxS xs xb ks σ.1]) else σ
def runS (xs : List Int) (xb : List Bool) (ks : List (List UInt8)) (bad : List Bool) : Nat → List Int × List Int
  | 0 => (List.replicate ks.length 0, [])
  | j + 1 => stp xs xb ks bad (runS xs xb ks bad j)
def runOk (xs : List Int) (xb : List Bool) (ks : List (List UInt8)) (bad : List Bool) : Bool := (ordB xs xb && decide (ks.length = xs.length)) && decide (bad.length = xs.length)
def runA (xs : List Int) (xb : List Bool) (ks : List (List UInt8)) (bad : List Bool) : List Int := if runOk xs xb ks bad then (runS xs xb ks bad xs.length).2 else []
def runF (xs : List Int) (xb : List Bool) (ks : List (List UInt8)) (bad : List Bool) : List Int := if runOk xs xb ks bad then fndL xs xb ks (runS xs xb ks bad xs.length).1 else []
def runE (xs : List Int) (xb : List Bool) (ks : List (List UInt8)) (bad : List Bool) : Int := if runOk xs xb ks bad then 0 else 1
def zc (m : List Int) : Nat := (m.filter fun x => decide (x = 0)).length
section
variable {xs : List Int} {xb : List Bool} {ks : List (List UInt8)} {bad : List Bool} {m : List Int}
theorem getD_rep (n i : Nat) : (List.replicate n (0 : Int)).getD i 0 = 0 := by
  rw [List.getD_eq_getElem?_getD]
  cases h : (List.replicate n (0 : Int))[i]? with
  | none => rfl
  | some x => rw [List.getElem?_replicate] at h; split at h <;> simp at h; subst h; rfl
theorem fit_new (h : ordB xs xb = true) (hk : ks.length = xs.length) : fitB xs xb ks (List.replicate ks.length 0) = true := by
  refine fit_ok (by unfold lenB; rw [h, decide_eq_true hk, decide_eq_true (by simpa using hk)]; rfl) fun i hi => fitI_of ?_ fun j hj => ?_
  · rw [getD_rep]; unfold rgM; simp
  · unfold sameI; rw [getD_rep, getD_rep]; simp
theorem ixS_get (hn : nod xs = true) {b : Nat} (hb : b < xs.length) : ixS xs (xs.getD b 0) = b := by
  unfold ixS
  refine ixF_at hb (by simp) fun j hj => decide_eq_false fun e => ?_
  rw [nod_no hb hj e] at hn
  cases hn
/-- What it is that is asked next. -/
theorem bst_in : ∀ (l : List Nat), bst xs m l = -1 ∨ ∃ i ∈ l, bst xs m l = (i : Int) ∧ m.getD i 0 = 0 := by
  have key : ∀ (l : List Nat) (b : Int), l.foldl (bsN xs m) b = b ∨ ∃ i ∈ l, l.foldl (bsN xs m) b = (i : Int) ∧ m.getD i 0 = 0 := by
    intro l
    induction l with
    | nil => intro b; exact .inl rfl
    | cons i l ih =>
      intro b
      rw [List.foldl_cons]
      rcases ih (bsN xs m b i) with h | ⟨j, hj, h1, h2⟩
      · rw [h]
        unfold bsN
        split
        · rename_i hc
          exact .inr ⟨i, List.mem_cons_self, rfl, hc.1⟩
        · exact .inl rfl
      · exact .inr ⟨j, List.mem_cons_of_mem _ hj, h1, h2⟩
  exact fun l => key l (-1)
theorem nx_use (h : nxO xs xb ks m = true) : fitB xs xb ks m = true ∧ ∃ b : Nat, b < xs.length ∧ nxB xs xb m = (b : Int) ∧ fre xs xb m b = true ∧ m.getD b 0 = 0 ∧ nxS xs xb ks m = xs.getD b 0 ∧ ixS xs (nxS xs xb ks m) = b := by
  have hb : ¬ nxI xs xb ks m < 0 := by
    intro hc
    unfold nxO at h
    rw [decide_eq_true hc] at h
    cases h
  have hft : fitB xs xb ks m = true := by
    cases hf : fitB xs xb ks m with
    | true => rfl
    | false => rw [nx_f hf] at hb; exact absurd (by decide) hb
  rw [nx_t hft] at hb
  refine ⟨hft, ?_⟩
  rcases bst_in (xs := xs) (m := m) (frl xs xb m) with h1 | ⟨i, hi, h1, h2⟩
  · unfold nxB at hb; rw [h1] at hb; exact absurd (by decide) hb
  · obtain ⟨h3, h4⟩ := frl_mem.1 hi
    have hs : nxS xs xb ks m = xs.getD i 0 := by
      unfold nxS
      rw [nx_t hft, if_neg hb]
      unfold nxB
      rw [h1, Int.toNat_natCast]
    refine ⟨i, h3, h1, h4, h2, hs, ?_⟩
    rw [hs, ixS_get (fit_use hft).1 h3]
theorem tlm_get {at_ mark : Int} {j : Nat} (n : Nat) (hj : j < m.length) : (tlm xb ks m at_ mark n).getD j 0 = if decide (j < n) && (xb.getD j false && decide (ks.getD j [] = ks.getD at_.toNat [])) then mark else m.getD j 0 := by
  unfold tlm
  rw [List.getD_eq_getElem?_getD, List.getElem?_map, List.getElem?_range hj]
  rfl
/-- Telling keeps what fits. -/
theorem fit_tel (h : fitB xs xb ks m = true) {b : Nat} (hb : b < xs.length) (hxb : xb.getD b false = true) {mark : Int} (hk : 1 ≤ mark ∧ mark ≤ 2) : fitB xs xb ks (tlm xb ks m (b : Int) mark xs.length) = true := by
  obtain ⟨h1, h2, h3, h4, h5, h6⟩ := fit_use h
  have hg : ∀ j, j < xs.length → (tlm xb ks m (b : Int) mark xs.length).getD j 0 = if (xb.getD j false && decide (ks.getD j [] = ks.getD b [])) then mark else m.getD j 0 := fun j hj => by
    rw [tlm_get xs.length (by omega), decide_eq_true hj, Bool.true_and, Int.toNat_natCast]
  refine fit_ok ?_ fun i hi => fitI_of ?_ fun j hj => ?_
  · have h' := h
    unfold fitB lenB at h'
    simp only [Bool.and_eq_true, decide_eq_true_eq] at h'
    unfold lenB
    rw [h'.1.1.1, decide_eq_true h3, tlm_len, decide_eq_true h4]; rfl
  · rw [hg i hi]
    split
    · rename_i hc
      rw [Bool.and_eq_true] at hc
      rw [hc.1]
      unfold rgM
      rw [decide_eq_true (show 0 ≤ mark by omega), decide_eq_true (show mark ≤ 2 by omega)]; rfl
    · exact h5 i hi
  · have hs := h6 i j hi hj
    unfold sameI at hs ⊢
    rw [hg i hi, hg j (by omega)]
    cases hxi : xb.getD i false with
    | false => rfl
    | true =>
      cases hxj : xb.getD j false with
      | false => rfl
      | true =>
        by_cases he : ks.getD i [] = ks.getD j []
        · rw [he]
          split
          · simp
          · rw [hxi, hxj, decide_eq_true he] at hs
            simpa using hs
        · rw [decide_eq_false he]; simp
theorem tel_use (h : nxO xs xb ks m = true) (bd : Bool) : ∃ b : Nat, b < xs.length ∧ ixS xs (nxS xs xb ks m) = b ∧ m.getD b 0 = 0 ∧ xb.getD b false = true ∧ telK xs xb ks m (nxS xs xb ks m) bd = (ks, tlm xb ks m (b : Int) (markOf bd) xs.length, 0) ∧ fitB xs xb ks (tlm xb ks m (b : Int) (markOf bd) xs.length) = true := by
  obtain ⟨hft, b, hb, h1, h2, h3, h4, h5⟩ := nx_use h
  have hxb : xb.getD b false = true := (Bool.and_eq_true_iff.1 h2).1
  refine ⟨b, hb, h5, h3, hxb, ?_, fit_tel hft hb hxb (markOf_rng bd)⟩
  have hi : ixF (fun y => decide (nxS xs xb ks m = y)) xs = (b : Int) := h5
  rw [telK_0 hft (by rw [hi, Int.toNat_natCast, hxb]; simp) (by rw [hi, Int.toNat_natCast, h3]; simp), hi]
theorem zc_lt : ∀ (m m' : List Int), m'.length = m.length → (∀ j, j < m.length → m'.getD j 0 = 0 → m.getD j 0 = 0) → (∃ b, b < m.length ∧ m.getD b 0 = 0 ∧ m'.getD b 0 ≠ 0) → zc m' < zc m := by
  have le : ∀ (m m' : List Int), m'.length = m.length → (∀ j, j < m.length → m'.getD j 0 = 0 → m.getD j 0 = 0) → zc m' ≤ zc m := by
    intro m
    induction m with
    | nil => intro m' hl _; rw [List.eq_nil_of_length_eq_zero hl]; exact Nat.le_refl _
    | cons x m ih =>
      intro m' hl h
      cases m' with
      | nil => simp at hl
      | cons y m' =>
        have h0 := h 0 (by simp)
        have := ih m' (by simpa using hl) fun j hj he => by have := h (j + 1) (by simpa using hj); simp only [List.getD_cons_succ] at this; exact this he
        simp only [List.getD_cons_zero] at h0
        unfold zc at this ⊢
        by_cases hy : y = 0
        · rw [List.filter_cons_of_pos (by simpa using hy), List.filter_cons_of_pos (by simpa using h0 hy)]
          simpa using this
        · rw [List.filter_cons_of_neg (by simpa using hy)]
          refine Nat.le_trans this ?_
          by_cases hx : x = 0
          · rw [List.filter_cons_of_pos (by simpa using hx)]; simp
          · rw [List.filter_cons_of_neg (by simpa using hx)]; exact Nat.le_refl _
  intro m
  induction m with
  | nil => intro m' _ _ ⟨b, hb, _⟩; simp at hb
  | cons x m ih =>
    intro m' hl h hex
    cases m' with
    | nil => simp at hl
    | cons y m' =>
      obtain ⟨b, hb, h1, h2⟩ := hex
      have hl' : m'.length = m.length := by simpa using hl
      have h' : ∀ j, j < m.length → m'.getD j 0 = 0 → m.getD j 0 = 0 := fun j hj he => by have := h (j + 1) (by simpa using hj); simp only [List.getD_cons_succ] at this; exact this he
      have h0 := h 0 (by simp)
      simp only [List.getD_cons_zero] at h0
      cases b with
      | zero =>
        simp only [List.getD_cons_zero] at h1 h2
        have := le m m' hl' h'
        unfold zc at this ⊢
        rw [List.filter_cons_of_neg (by simpa using h2), List.filter_cons_of_pos (by simpa using h1)]
        simp only [List.length_cons]
        omega
      | succ b =>
        simp only [List.getD_cons_succ] at h1 h2
        have := ih m' hl' h' ⟨b, by simpa using hb, h1, h2⟩
        unfold zc at this ⊢
        by_cases hy : y = 0
        · rw [List.filter_cons_of_pos (by simpa using hy), List.filter_cons_of_pos (by simpa using h0 hy)]
          simp only [List.length_cons]
          omega
        · rw [List.filter_cons_of_neg (by simpa using hy)]
          by_cases hx : x = 0
          · rw [List.filter_cons_of_pos (by simpa using hx)]; simp only [List.length_cons]; omega
          · rw [List.filter_cons_of_neg (by simpa using hx)]; exact this
theorem zc_tel (h : fitB xs xb ks m = true) {b : Nat} (hb : b < xs.length) (h0 : m.getD b 0 = 0) (hxb : xb.getD b false = true) {mark : Int} (hk : 1 ≤ mark ∧ mark ≤ 2) : zc (tlm xb ks m (b : Int) mark xs.length) < zc m := by
  have hml := (fit_use h).2.2.2.1
  refine zc_lt m _ (tlm_len _) (fun j hj he => ?_) ⟨b, by omega, h0, ?_⟩
  · rw [tlm_get xs.length hj] at he
    split at he
    · omega
    · exact he
  · rw [tlm_get xs.length (by omega), decide_eq_true hb, hxb, Int.toNat_natCast]
    simp
    omega
theorem zc_le (m : List Int) : zc m ≤ m.length := List.length_filter_le _ _
theorem run_step {j : Nat} {A : List Int} (hj : runS xs xb ks bad j = (m, A)) (h : nxO xs xb ks m = true) : runS xs xb ks bad (j + 1) = ((telK xs xb ks m (nxS xs xb ks m) (bad.getD (ixS xs (nxS xs xb ks m)).toNat false)).2.1, A ++ [nxS xs xb ks m]) := by
  rw [runS, hj, stp, if_pos h]
theorem run_end {j : Nat} {A : List Int} (hj : runS xs xb ks bad j = (m, A)) (h : nxO xs xb ks m = false) : ∀ t, j ≤ t → runS xs xb ks bad t = (m, A) := by
  intro t ht
  induction t with
  | zero => rw [← hj]; congr 1; omega
  | succ t ih =>
    rcases Nat.lt_or_ge t j with h' | h'
    · rw [show t + 1 = j by omega]; exact hj
    · rw [runS, ih h', stp, if_neg (by rw [h]; decide)]
theorem runOk_no (h : ordB xs xb = false ∨ ¬ ks.length = xs.length ∨ ¬ bad.length = xs.length) : runOk xs xb ks bad = false := by
  unfold runOk
  rcases h with h | h | h
  · rw [h]; rfl
  · rw [decide_eq_false h]; simp
  · rw [decide_eq_false h]; simp
theorem runOk_ok (h : ordB xs xb = true) (h2 : ks.length = xs.length) (h3 : bad.length = xs.length) : runOk xs xb ks bad = true := by
  unfold runOk
  rw [h, decide_eq_true h2, decide_eq_true h3]; rfl
end
end Go.Fw.Hu
namespace Go.Fw.Hu
open Gu
theorem newK_use {xs : List Int} {xb : List Bool} {ks : List (List UInt8)} (h : (newK xs xb ks).2.2 = 0) : ordB xs xb = true ∧ ks.length = xs.length ∧ newK xs xb ks = (ks, List.replicate ks.length 0, 0) := by
  unfold newK at h ⊢
  split at h
  · rename_i hc
    rw [Bool.and_eq_true, decide_eq_true_eq] at hc
    rw [if_pos (by rw [hc.1, decide_eq_true hc.2]; rfl)]
    exact ⟨hc.1, hc.2, rfl⟩
  · cases h
theorem run_bad {xs : List Int} {xb : List Bool} {ks : List (List UInt8)} {bad : List Bool} (h : ¬ (newK xs xb ks).2.2 = 0 ∨ ¬ (bad.length : Int) = xs.length) : runOk xs xb ks bad = false := by
  rcases h with h | h
  · unfold newK at h
    split at h
    · exact absurd rfl h
    · rename_i hc
      unfold runOk
      rw [Bool.eq_false_iff.2 hc]; rfl
  · exact runOk_no (.inr (.inr (by omega)))
theorem run_fin {xs : List Int} {xb : List Bool} {ks : List (List UInt8)} {bad : List Bool} {m A : List Int} {j : Nat} (hk : runOk xs xb ks bad = true) (hj : runS xs xb ks bad j = (m, A)) (h : nxO xs xb ks m = false) (hl : j ≤ xs.length) : runA xs xb ks bad = A ∧ runF xs xb ks bad = fndL xs xb ks m ∧ runE xs xb ks bad = 0 := by
  have := run_end hj h _ hl
  unfold runA runF runE
  rw [hk, this]
  exact ⟨rfl, rfl, rfl⟩
theorem run_err {xs : List Int} {xb : List Bool} {ks : List (List UInt8)} {bad : List Bool} (hk : runOk xs xb ks bad = false) : runA xs xb ks bad = [] ∧ runF xs xb ks bad = [] ∧ runE xs xb ks bad = 1 := by
  unfold runA runF runE
  rw [hk]
  exact ⟨rfl, rfl, rfl⟩
end Go.Fw.Hu
end

section
/- hunt: Line. -/
namespace Go.Fw.Hu
open Gu
def ats (xs p : List Int) : List Int := p.map (ixS xs)
def mk2 (ms : List Int) (i : Int) : Bool := decide (ms.getD i.toNat 0 = 2)
def lnH (ms A : List Int) : Int := ixF (mk2 ms) A
def lnLo (ms A : List Int) : Nat → Int
  | 0 => 0
  | k + 1 => if ms.getD (A.getD k 0).toNat 0 = 1 then (k : Int) else lnLo ms A k
def lnLow (ms A : List Int) : Int := lnLo ms A (lnH ms A).toNat
def apt (i m : Int) : Int := max (i - m) (m - i)
def lnMid (ms A : List Int) : Int := (lnLow ms A + lnH ms A) / 2
def lnBs (xb : List Bool) (A : List Int) (mid lo : Int) : Nat → Int
  | 0 => -1
  | n + 1 => if xb.getD (A.getD (lo + 1 + n).toNat 0).toNat false = true ∧ (lnBs xb A mid lo n < 0 ∨ apt (lo + 1 + n) mid < apt (lnBs xb A mid lo n) mid) then lo + 1 + n else lnBs xb A mid lo n
def lnB (xb : List Bool) (ms A : List Int) : Int := lnBs xb A (lnMid ms A) (lnLow ms A) (lnH ms A - lnLow ms A - 1).toNat
def lnR (xs : List Int) (xb : List Bool) (ks : List (List UInt8)) (ms p : List Int) : Int × Bool × Int :=
  if fitB xs xb ks ms = false ∨ p.length < 2 then (0, false, 1)
  else if (-1 : Int) ∈ ats xs p then (0, false, 6)
  else if ¬ ms.getD ((ats xs p).getD 0 0).toNat 0 = 1 ∨ ¬ ms.getD ((ats xs p).getD (p.length - 1) 0).toNat 0 = 2 then (0, false, 14)
  else if lnB xb ms (ats xs p) < 0 then (p.getD (lnH ms (ats xs p)).toNat 0, false, 0) else (p.getD (lnB xb ms (ats xs p)).toNat 0, true, 0)
def lnV (r : Int × Bool × Int) : Value := .tuple #[vi r.1, .bool r.2.1, vi r.2.2]
section
variable {xs : List Int} {xb : List Bool} {ks : List (List UInt8)} {ms p A : List Int}
theorem ats_len : (ats xs p).length = p.length := by simp [ats]
theorem ats_snoc {i : Int} (h : 0 ≤ i ∧ i < p.length) : ats xs (p.take (i + 1).toNat) = ats xs (p.take i.toNat) ++ [ixF (fun y => decide (p.getD i.toNat 0 = y)) xs] := by
  rw [show (i + 1).toNat = i.toNat + 1 by omega, take_snoc' (by omega)]
  unfold ats
  rw [List.map_append]
  rfl
theorem ixS_rng (s : Int) : -1 ≤ ixS xs s ∧ ixS xs s < xs.length := ixF_range _ _
theorem ats_rg (hl : xs.length ≤ 140737488355328) : ∀ x ∈ ats xs p, -9223372036854775808 ≤ x ∧ x ≤ 9223372036854775807 := fun x hx => by
  obtain ⟨s, _, rfl⟩ := List.mem_map.1 hx
  have := ixS_rng (xs := xs) s
  omega
theorem ats_all (h : (-1 : Int) ∉ ats xs p) : ∀ x ∈ ats xs p, 0 ≤ x ∧ x < xs.length := fun x hx => by
  have hne : x ≠ -1 := fun e => h (e ▸ hx)
  obtain ⟨s, _, rfl⟩ := List.mem_map.1 hx
  have := ixS_rng (xs := xs) s
  omega
theorem lnH_rng (hl : 2 ≤ A.length) (h1 : ms.getD (A.getD 0 0).toNat 0 = 1) (h2 : ms.getD (A.getD (A.length - 1) 0).toNat 0 = 2) : 1 ≤ lnH ms A ∧ lnH ms A < A.length ∧ ms.getD (A.getD (lnH ms A).toNat 0).toNat 0 = 2 := by
  unfold lnH
  have hr := ixF_range (mk2 ms) A
  have hge : 0 ≤ ixF (mk2 ms) A := by
    have := ixF_any (mk2 ms) A
    rw [show A.any (mk2 ms) = true from List.any_eq_true.2 ⟨_, getD_mem' (k := A.length - 1) (by omega), decide_eq_true h2⟩] at this
    exact of_decide_eq_true this
  obtain ⟨h3, h4, h5, h6⟩ := ixF_spec (p := mk2 ms) (xs := A) (by omega)
  refine ⟨?_, by omega, ?_⟩
  · rcases Int.lt_or_le 0 (ixF (mk2 ms) A) with h | h
    · omega
    · have e : ixF (mk2 ms) A = 0 := by omega
      rw [e] at h5
      have := of_decide_eq_true h5
      rw [show (0 : Int).toNat = 0 from rfl, h1] at this
      cases this
  · exact of_decide_eq_true h5
theorem lnLo_rng : ∀ k, 0 ≤ lnLo ms A k ∧ (lnLo ms A k < k ∨ lnLo ms A k = 0)
  | 0 => by simp [lnLo]
  | k + 1 => by
    have := lnLo_rng k
    unfold lnLo
    split <;> omega
theorem lnLo_t {i : Int} (hi : 0 ≤ i) (h : ms.getD (A.getD i.toNat 0).toNat 0 = 1) : lnLo ms A (i + 1).toNat = i := by
  rw [show (i + 1).toNat = i.toNat + 1 by omega, lnLo, if_pos h]; omega
theorem lnLo_f {i : Int} (hi : 0 ≤ i) (h : ¬ ms.getD (A.getD i.toNat 0).toNat 0 = 1) : lnLo ms A (i + 1).toNat = lnLo ms A i.toNat := by
  rw [show (i + 1).toNat = i.toNat + 1 by omega, lnLo, if_neg h]
theorem lnBs_rng {mid lo : Int} (hlo : 0 ≤ lo) : ∀ n, -1 ≤ lnBs xb A mid lo n ∧ lnBs xb A mid lo n < lo + 1 + n
  | 0 => by simp [lnBs]; omega
  | n + 1 => by
    have := lnBs_rng (mid := mid) hlo n
    unfold lnBs
    split <;> omega
theorem lnBs_t {mid lo i : Int} (hi : lo + 1 ≤ i) (h : xb.getD (A.getD i.toNat 0).toNat false = true ∧ (lnBs xb A mid lo (i - lo - 1).toNat < 0 ∨ apt i mid < apt (lnBs xb A mid lo (i - lo - 1).toNat) mid)) : lnBs xb A mid lo (i + 1 - lo - 1).toNat = i := by
  rw [show (i + 1 - lo - 1).toNat = (i - lo - 1).toNat + 1 by omega, lnBs]
  have e : lo + 1 + ((i - lo - 1).toNat : Int) = i := by omega
  rw [e, if_pos h]
theorem lnBs_f {mid lo i : Int} (hi : lo + 1 ≤ i) (h : ¬ (xb.getD (A.getD i.toNat 0).toNat false = true ∧ (lnBs xb A mid lo (i - lo - 1).toNat < 0 ∨ apt i mid < apt (lnBs xb A mid lo (i - lo - 1).toNat) mid))) : lnBs xb A mid lo (i + 1 - lo - 1).toNat = lnBs xb A mid lo (i - lo - 1).toNat := by
  rw [show (i + 1 - lo - 1).toNat = (i - lo - 1).toNat + 1 by omega, lnBs]
  have e : lo + 1 + ((i - lo - 1).toNat : Int) = i := by omega
  rw [e, if_neg h]
theorem lnMid_rng (h0 : 0 ≤ lnLow ms A) (h1 : lnLow ms A ≤ lnH ms A) : 0 ≤ lnMid ms A ∧ lnMid ms A ≤ lnH ms A := by
  unfold lnMid
  omega
theorem lnR_1 (h : fitB xs xb ks ms = false ∨ (p.length : Int) < 2) : lnR xs xb ks ms p = (0, false, 1) := by
  unfold lnR
  rw [if_pos (h.imp id fun h => by omega)]
theorem lnR_n (h : fitB xs xb ks ms = true ∧ ¬ (p.length : Int) < 2) : ¬ (fitB xs xb ks ms = false ∨ p.length < 2) := by
  rintro (h1 | h1)
  · rw [h.1] at h1; cases h1
  · have := h.2; omega
theorem lnR_6 (h : fitB xs xb ks ms = true ∧ ¬ (p.length : Int) < 2) (h2 : (-1 : Int) ∈ ats xs p) : lnR xs xb ks ms p = (0, false, 6) := by
  unfold lnR
  rw [if_neg (lnR_n h), if_pos h2]
theorem lnR_14 (h : fitB xs xb ks ms = true ∧ ¬ (p.length : Int) < 2) (h2 : (-1 : Int) ∉ ats xs p) (h3 : ¬ ms.getD ((ats xs p).getD 0 0).toNat 0 = 1 ∨ ¬ ms.getD ((ats xs p).getD (p.length - 1) 0).toNat 0 = 2) : lnR xs xb ks ms p = (0, false, 14) := by
  unfold lnR
  rw [if_neg (lnR_n h), if_neg h2, if_pos h3]
theorem lnR_a (h : fitB xs xb ks ms = true ∧ ¬ (p.length : Int) < 2) (h2 : (-1 : Int) ∉ ats xs p) (h3 : ¬ (¬ ms.getD ((ats xs p).getD 0 0).toNat 0 = 1 ∨ ¬ ms.getD ((ats xs p).getD (p.length - 1) 0).toNat 0 = 2)) (h4 : lnB xb ms (ats xs p) < 0) : lnR xs xb ks ms p = (p.getD (lnH ms (ats xs p)).toNat 0, false, 0) := by
  unfold lnR
  rw [if_neg (lnR_n h), if_neg h2, if_neg h3, if_pos h4]
theorem lnR_b (h : fitB xs xb ks ms = true ∧ ¬ (p.length : Int) < 2) (h2 : (-1 : Int) ∉ ats xs p) (h3 : ¬ (¬ ms.getD ((ats xs p).getD 0 0).toNat 0 = 1 ∨ ¬ ms.getD ((ats xs p).getD (p.length - 1) 0).toNat 0 = 2)) (h4 : ¬ lnB xb ms (ats xs p) < 0) : lnR xs xb ks ms p = (p.getD (lnB xb ms (ats xs p)).toNat 0, true, 0) := by
  unfold lnR
  rw [if_neg (lnR_n h), if_neg h2, if_neg h3, if_neg h4]
theorem last_eq (hA : A = ats xs p) : ((A.length : Int) - 1).toNat = p.length - 1 := by rw [hA, ats_len]; omega
theorem lnV_14 (hA : A = ats xs p) (h : fitB xs xb ks ms = true ∧ ¬ (p.length : Int) < 2) (h2 : (-1 : Int) ∉ A) (h3 : ¬ ms.getD (A.getD (Int.toNat 0) 0).toNat 0 = 1 ∨ ¬ ms.getD (A.getD ((A.length : Int) - 1).toNat 0).toNat 0 = 2) : Value.tuple #[vi 0, .bool false, vi 14] = lnV (lnR xs xb ks ms p) := by
  rw [last_eq hA] at h3
  subst hA
  rw [lnR_14 h h2 h3]; rfl
theorem lnV_a (hA : A = ats xs p) (h : fitB xs xb ks ms = true ∧ ¬ (p.length : Int) < 2) (h2 : (-1 : Int) ∉ A) (h3 : ms.getD (A.getD (Int.toNat 0) 0).toNat 0 = 1 ∧ ms.getD (A.getD ((A.length : Int) - 1).toNat 0).toNat 0 = 2) (h4 : lnB xb ms A < 0) : Value.tuple #[vi (p.getD (lnH ms A).toNat 0), .bool false, vi 0] = lnV (lnR xs xb ks ms p) := by
  rw [last_eq hA] at h3
  subst hA
  rw [lnR_a h h2 (by rintro (h5 | h5); exact h5 h3.1; exact h5 h3.2) h4]; rfl
theorem lnV_b (hA : A = ats xs p) (h : fitB xs xb ks ms = true ∧ ¬ (p.length : Int) < 2) (h2 : (-1 : Int) ∉ A) (h3 : ms.getD (A.getD (Int.toNat 0) 0).toNat 0 = 1 ∧ ms.getD (A.getD ((A.length : Int) - 1).toNat 0).toNat 0 = 2) (h4 : ¬ lnB xb ms A < 0) : Value.tuple #[vi (p.getD (lnB xb ms A).toNat 0), .bool true, vi 0] = lnV (lnR xs xb ks ms p) := by
  rw [last_eq hA] at h3
  subst hA
  rw [lnR_b h h2 (by rintro (h5 | h5); exact h5 h3.1; exact h5 h3.2) h4]; rfl
end
end Go.Fw.Hu
end

section
/- hunt: the examples. -/
namespace Go.Fw.Hu
def dg (b : UInt8) : List UInt8 := b :: List.replicate 15 0
def lvX : List Int := [0, 1, 4, 3, 5, 7]
def lvB : List Bool := [true, true, true, true, true, true]
def lvK : List (List UInt8) := [dg 1, dg 2, dg 3, dg 4, dg 5, dg 6]
def lvK2 : List (List UInt8) := [dg 1, dg 2, dg 3, dg 2, dg 5, dg 6]
def lvZ : List Int := [0, 0, 0, 0, 0, 0]
def lvD : List Bool := [false, false, false, true, false, true]
def lvD2 : List Bool := [false, true, false, true, false, false]
def lvG : List Int := [1, 0, 0, 0, 0, 0]
def lvH : List Int := [1, 0, 0, 0, 0, 2]
def lvW : List Int := [2, 0, 0, 0, 0, 0]
theorem lvX_rng : ∀ x ∈ lvX, -9223372036854775808 ≤ x ∧ x ≤ 9223372036854775807 := by decide
theorem lv_new : newK lvX lvB lvK = (lvK, lvZ, 0) := by decide +kernel
theorem lv_nx : nxS lvX lvB lvK lvZ = 0 ∧ nxO lvX lvB lvK lvZ = true ∧ kE lvX lvB lvK lvZ = 0 := by decide +kernel
theorem lv_op : (opnL lvX lvB lvK lvZ).length = 6 := by decide +kernel
theorem lv_r1 : runA lvX lvB lvK lvD = [0, 1, 4, 3, 5] ∧ runF lvX lvB lvK lvD = [3] ∧ runE lvX lvB lvK lvD = 0 := by decide +kernel
theorem lv_t1 : telK lvX lvB lvK lvZ 0 true = (lvK, lvW, 0) := by decide +kernel
theorem lv_dn : dnB lvX lvB lvK lvW = true ∧ kE lvX lvB lvK lvW = 0 := by decide +kernel
theorem lv_fd : fndL lvX lvB lvK lvW = [0] := by decide +kernel
theorem lv_t2 : telK lvX lvB lvK lvZ 0 false = (lvK, lvG, 0) := by decide +kernel
theorem lv_t3 : telK lvX lvB lvK lvG 7 true = (lvK, lvH, 0) := by decide +kernel
theorem lv_t4 : telK lvX lvB lvK lvG 0 true = ([], [], 14) := by decide +kernel
theorem lv_nd : ndL lvX lvB lvK lvH = [0, 7] ∧ kE lvX lvB lvK lvH = 0 := by decide +kernel
theorem lv_r2 : runA lvX lvB lvK2 lvD2 = [0, 1, 4] ∧ runF lvX lvB lvK2 lvD2 = [1] ∧ runE lvX lvB lvK2 lvD2 = 0 := by decide +kernel
end Go.Fw.Hu
namespace Go.Fw.Hu
theorem lv16 {l : List (List UInt8)} (h : ∀ x ∈ l, x.length = 16) : ∀ c ∈ l.map (fun x => x.map vb), c.length = 16 := fun c hc => by
  obtain ⟨x, hx, rfl⟩ := List.mem_map.1 hc
  rw [List.length_map, h x hx]
theorem lv1c {l : List (List UInt8)} : ∀ c ∈ l.map (fun x => x.map vb), ∀ v ∈ c, v.oneCell' = true := fun c hc v hv => by
  obtain ⟨x, _, rfl⟩ := List.mem_map.1 hc
  obtain ⟨b, _, rfl⟩ := List.mem_map.1 hv
  rfl
end Go.Fw.Hu
end

section
/- hunt: what the laws make their inputs of. -/
namespace Go.Fw.Hu
open Gu
def dgI (k : Int) : List UInt8 := ofb (k + 1) :: List.replicate 15 0
def kyl (m : List Int) : Nat → List (List UInt8)
  | 0 => []
  | k + 1 => kyl m k ++ [if atN m k 16 < k ∧ atN m k 16 < 5 then (kyl m k).getD (atN m k 16).toNat [] else dgI k]
theorem kyl_len (m : List Int) : ∀ k, (kyl m k).length = k
  | 0 => rfl
  | k + 1 => by rw [kyl, List.length_append, kyl_len m k]; rfl
theorem dgI_16 (k : Int) : (dgI k).length = 16 := by simp [dgI]
theorem kyl_16 (m : List Int) : ∀ k, ∀ x ∈ kyl m k, x.length = 16
  | 0, x, h => by cases h
  | k + 1, x, h => by
    rw [kyl] at h
    rcases List.mem_append.1 h with h | h
    · exact kyl_16 m k x h
    · rw [List.mem_singleton.1 h]
      split
      · rename_i hc
        have := (atN_range (l := m) (i := k) (m := 16) (by decide)).1
        have hl : (atN m k 16).toNat < (kyl m k).length := by rw [kyl_len]; omega
        rw [List.getD_eq_getElem?_getD, List.getElem?_eq_getElem hl]
        exact kyl_16 m k _ (List.getElem_mem hl)
      · exact dgI_16 k
theorem kyl_t {m : List Int} {i : Int} (hi : 0 ≤ i) (h : atN m i 16 < i ∧ atN m i 16 < 5) : kyl m (i + 1).toNat = kyl m i.toNat ++ [(kyl m i.toNat).getD (atN m i 16).toNat []] := by
  rw [show (i + 1).toNat = i.toNat + 1 by omega, kyl, show ((i.toNat : Nat) : Int) = i by omega, if_pos h]
theorem kyl_f {m : List Int} {i : Int} (hi : 0 ≤ i) (h : ¬ (atN m i 16 < i ∧ atN m i 16 < 5)) : kyl m (i + 1).toNat = kyl m i.toNat ++ [dgI i] := by
  rw [show (i + 1).toNat = i.toNat + 1 by omega, kyl, show ((i.toNat : Nat) : Int) = i by omega, if_neg h]
def truB (l : List Int) (ks : List (List UInt8)) (i : Nat) : Bool := decide (atN l (((ks.getD i []).getD 0 0).toNat : Int) 3 = 1)
def tru (l : List Int) (ks : List (List UInt8)) (i : Nat) : List Bool := (List.range i).map (truB l ks)
theorem tru_len (l : List Int) (ks : List (List UInt8)) (i : Nat) : (tru l ks i).length = i := by simp [tru]
theorem tru_succ (l : List Int) (ks : List (List UInt8)) (i : Nat) : tru l ks (i + 1) = tru l ks i ++ [truB l ks i] := by simp [tru, List.range_succ]
/-! ### some classes told -/
abbrev KP := List (List UInt8) × List Int
def mkS (xs : List Int) (xb : List Bool) (ks : List (List UInt8)) (bad : List Bool) (l : List Int) : Nat → KP
  | 0 => ((newK xs xb ks).1, (newK xs xb ks).2.1)
  | j + 1 => if xb.getD j false = true ∧ atN l j 2 = 1 ∧ (telK xs xb (mkS xs xb ks bad l j).1 (mkS xs xb ks bad l j).2 (xs.getD j 0) (bad.getD j false)).2.2 = 0 then
      ((telK xs xb (mkS xs xb ks bad l j).1 (mkS xs xb ks bad l j).2 (xs.getD j 0) (bad.getD j false)).1, (telK xs xb (mkS xs xb ks bad l j).1 (mkS xs xb ks bad l j).2 (xs.getD j 0) (bad.getD j false)).2.1) else mkS xs xb ks bad l j
def mkN (xs : List Int) (xb : List Bool) (ks : List (List UInt8)) (bad : List Bool) : Nat := if (newK xs xb ks).2.2 = 0 then min xs.length bad.length else 0
def mkK (xs : List Int) (xb : List Bool) (ks : List (List UInt8)) (bad : List Bool) (l : List Int) : KP := mkS xs xb ks bad l (mkN xs xb ks bad)
section
variable {xs : List Int} {xb : List Bool} {ks : List (List UInt8)} {bad : List Bool} {l : List Int}
end
end Go.Fw.Hu
namespace Go.Fw.Hu
theorem not_or {i : Int} {xb : List Bool} (h : ¬ i < 0 ∧ xb.getD i.toNat false = true) : ¬ (i < 0 ∨ xb.getD i.toNat false = false) := by
  rintro (h1 | h1)
  · exact h.1 h1
  · rw [h.2] at h1; cases h1
end Go.Fw.Hu
namespace Go.Fw.Hu
open Gu
end Go.Fw.Hu
end

section
/- hunt: the number of ones, as the library reckons it, is the number of ones. -/
namespace Go.Fw.Hu
open Gu
def mpB (f : Nat → Nat) : Nat → Nat → Nat
  | 0, _ => 0
  | n + 1, x => 256 * mpB f n (x / 256) + f (x % 256)
def rpt (m : Nat) : Nat → Nat
  | 0 => 0
  | n + 1 => 256 * rpt m n + m
def q1 (b : Nat) : Nat := (b / 2 &&& 85) + (b &&& 85)
def q2 (b : Nat) : Nat := (b / 4 &&& 51) + (b &&& 51)
def q3 (b : Nat) : Nat := (b / 16 + b) % 16
def pcN : Nat → Nat → Nat
  | 0, _ => 0
  | n + 1, x => x % 2 + pcN n (x / 2)
/-- The sum over the bytes. -/
def smB : Nat → Nat → Nat
  | 0, _ => 0
  | n + 1, x => pcN 8 (x % 256) + smB n (x / 256)
theorem pcN_add : ∀ m n x, pcN (m + n) x = pcN m x + pcN n (x / 2 ^ m)
  | 0, n, x => by rw [Nat.zero_add, pcN, Nat.pow_zero, Nat.div_one, Nat.zero_add]
  | m + 1, n, x => by
    rw [show m + 1 + n = (m + n) + 1 by omega, pcN, pcN_add m n, pcN, Nat.pow_succ, Nat.mul_comm, Nat.div_div_eq_div_mul, Nat.add_assoc]
theorem pcN_succ (n x : Nat) : pcN (n + 1) x = pcN n x + x / 2 ^ n % 2 := by
  rw [pcN_add]
  simp [pcN]
end Go.Fw.Hu
end

section
/- hunt: the library's number of ones is the reference's size. -/
namespace Go.Fw.Hu
open Gu
theorem wrap_small {n : Nat} (h : n < 9223372036854775808) : IntKind.i64.wrap (n : Int) = n := by
  simp [IntKind.wrap, IntKind.bits, IntKind.signed]
  omega
theorem iand_m1 (a : Int) : iand a 1 = a % 2 := by
  unfold iand
  have h : (BitVec.ofInt 64 a &&& BitVec.ofInt 64 1).toNat = (a % 2).toNat := by
    rw [BitVec.toNat_and, BitVec.toNat_ofInt, BitVec.toNat_ofInt, show ((1 : Int) % ((2 ^ 64 : Nat) : Int)).toNat = 1 from rfl, Nat.and_one_is_mod]
    omega
  rw [h, wrap_small (by omega)]
  omega
theorem pc_bit (s : Int) (k : Nat) (hk : k < 64) : ((((s % 18446744073709551616).toNat / 2 ^ k % 2 : Nat)) : Int) = s / 2 ^ k % 2 := by
  have hm : 0 ≤ s % 18446744073709551616 := Int.emod_nonneg _ (by decide)
  obtain ⟨m, hm2⟩ : ∃ m : Nat, (m : Int) = s % 18446744073709551616 := ⟨(s % 18446744073709551616).toNat, by omega⟩
  have hs : s = (m : Int) + 18446744073709551616 * (s / 18446744073709551616) := by omega
  rw [← hm2, Int.toNat_natCast]
  obtain ⟨q, hq⟩ : ∃ q, q = s / 18446744073709551616 := ⟨_, rfl⟩
  rw [← hq] at hs
  have hp : (18446744073709551616 : Int) = 2 ^ k * (2 * 2 ^ (63 - k)) := by
    have : (2 : Int) ^ 64 = 2 ^ k * (2 * 2 ^ (63 - k)) := by
      rw [← Int.pow_succ', ← Int.pow_add, show k + (63 - k + 1) = 64 by omega]
    rw [← this]; rfl
  have h2 : s / 2 ^ k = (m : Int) / 2 ^ k + 2 * (2 ^ (63 - k) * q) := by
    rw [hs, hp, Int.mul_assoc, Int.add_mul_ediv_left _ _ (by exact Int.ne_of_gt (Int.pow_pos (by decide))), Int.mul_assoc]
  rw [h2, Int.natCast_emod, Int.natCast_ediv, Int.natCast_pow]
  show (m : Int) / 2 ^ k % 2 = _
  omega
theorem size_pc (s : Int) : ∀ k : Nat, k ≤ 64 → size s k = ((pcN k (s % 18446744073709551616).toNat : Nat) : Int)
  | 0, _ => rfl
  | k + 1, hk => by
    have ih := size_pc s k (by omega)
    have hb := pc_bit s k (by omega)
    rw [size, pcN_succ, ih]
    have e : bitB s (k : Int) = decide (s / 2 ^ k % 2 = 1) := by
      unfold bitB
      rw [iand_m1, Int.toNat_natCast]
    rw [e]
    by_cases h : s / 2 ^ k % 2 = 1
    · rw [decide_eq_true h, if_pos rfl]
      omega
    · rw [decide_eq_false h, if_neg (by decide)]
      omega
end Go.Fw.Hu
end

section
/- hunt: the reference's classes, found, next. -/
namespace Go.Fw.Hu
open Gu
def wnt (asked : Bool) (m : Int) : Bool := (!decide (m = 0)) == asked
def rff (xb : List Bool) (ks : List (List UInt8)) (ms : List Int) (asked : Bool) (i j : Nat) : Bool := (xb.getD i false && ((!decide (ms.getD i 0 = 0)) == asked)) && !erl xb ks j (ks.getD i [])
def rgj (xs : List Int) (xb : List Bool) (ks : List (List UInt8)) (ms : List Int) (i t : Nat) : Bool := (xb.getD t false && decide (ks.getD t [] = ks.getD i [])) && !cov xs xb ms t
def rgg (xs : List Int) (xb : List Bool) (ks : List (List UInt8)) (ms : List Int) (i j : Nat) : Bool := (List.range j).any (rgj xs xb ks ms i)
section
variable {xs : List Int} {xb : List Bool} {ks : List (List UInt8)} {ms : List Int} {asked : Bool}
/-! ### found -/
def rfd (xs : List Int) (xb : List Bool) (ms : List Int) (x : Int) (j : Nat) : Bool := (!xb.getD j false || !blw (xs.getD j 0) x) || decide (ms.getD j 0 = 1)
/-! ### next -/
def bk (xs : List Int) (xb : List Bool) (ms : List Int) (k : Nat) : Int := bst xs ms ((List.range k).filter (fre xs xb ms))
/-- No set that may be asked is smaller than s; none before i is as small. -/
def nxA (xs : List Int) (xb : List Bool) (ms : List Int) (s : Int) : Prop := ∀ t, t < xs.length → fre xs xb ms t = true → ms.getD t 0 = 0 → s ≤ size (xs.getD t 0) 64
def nxC (xs : List Int) (xb : List Bool) (ms : List Int) (s : Int) (i : Nat) : Prop := ∀ t, t < i → fre xs xb ms t = true → ms.getD t 0 = 0 → size (xs.getD t 0) 64 ≠ s
end
end Go.Fw.Hu
namespace Go.Fw.Hu
end Go.Fw.Hu
end

section
/- hunt: the least sets above one; paths. -/
namespace Go.Fw.Hu.Ab
open Go.Fw.Gu (wi extr extr_len extr_mem extr_nodup extr_iff take_snoc' any_succ getD_mem' ixF fltr R64)
abbrev iw (a b : Int) : Bool := wi b a
/-- What Above strikes out. -/
def del (s y : Int) : Bool := decide (y = s) || !iw y s
def kept (s : Int) (xs : List Int) : List Int := xs.filter fun y => !del s y
/-- Where DeleteFunc stands: i kept among the first j. -/
structure Dst (s : Int) (xs ys : List Int) (i j : Int) : Prop where
  i0 : 0 ≤ i ∧ i < j ∧ j ≤ xs.length
  len : ys.length = xs.length
  head : ys.take i.toNat = kept s (xs.take j.toNat)
  tail : ys.drop j.toNat = xs.drop j.toNat
theorem kept_len (s : Int) (xs : List Int) : (kept s xs).length ≤ xs.length := List.length_filter_le _ _
/-- The least sets above one. -/
def blw (xs : List Int) (s : Int) : List Int := extr (fun a b => iw b a) (kept s xs) (kept s xs).length
theorem kept_all {s : Int} {xs : List Int} (h : ∀ x ∈ xs, del s x = false) : kept s xs = xs := List.filter_eq_self.2 fun x hx => by rw [h x hx]; rfl
theorem Dst.start {s : Int} {xs : List Int} {i : Int} (hi : 0 ≤ i ∧ i < xs.length) (hp : del s (xs.getD i.toNat 0) = true) (hn : ∀ j, j < i.toNat → del s (xs.getD j 0) = false) : Dst s xs xs i (i + 1) := by
  refine ⟨by omega, rfl, ?_, rfl⟩
  rw [show (i + 1).toNat = i.toNat + 1 by omega, take_snoc' (by omega), kept, List.filter_append, List.filter_cons, if_neg (by rw [hp]; decide), List.filter_nil, List.append_nil]
  refine (kept_all (s := s) fun x hx => ?_).symm
  obtain ⟨j, hj, rfl⟩ := List.mem_iff_getElem.1 hx
  rw [List.length_take] at hj
  have := hn j (by omega)
  rw [List.getElem_take]
  rwa [List.getD_eq_getElem?_getD, List.getElem?_eq_getElem (by omega)] at this
theorem Dst.get {s : Int} {xs ys : List Int} {i j : Int} (h : Dst s xs ys i j) (hj : j < xs.length) : ys.getD j.toNat 0 = xs.getD j.toNat 0 := by
  have := congrArg (·[0]?) h.tail
  simp only [List.getElem?_drop, Nat.add_zero] at this
  rw [List.getD_eq_getElem?_getD, List.getD_eq_getElem?_getD, this]
theorem Dst.skip {s : Int} {xs ys : List Int} {i j : Int} (h : Dst s xs ys i j) (hj : j < xs.length) (hp : del s (ys.getD j.toNat 0) = true) : Dst s xs ys i (j + 1) := by
  have hg := h.get hj
  rw [hg] at hp
  have := h.i0
  refine ⟨by omega, h.len, ?_, ?_⟩
  · rw [h.head, show (j + 1).toNat = j.toNat + 1 by omega, take_snoc' (by omega)]
    unfold kept
    rw [List.filter_append, List.filter_cons, if_neg (by rw [hp]; decide), List.filter_nil, List.append_nil]
  · have := congrArg (List.drop 1) h.tail
    rwa [List.drop_drop, List.drop_drop, show j.toNat + 1 = (j + 1).toNat by omega] at this
theorem Dst.keep {s : Int} {xs ys : List Int} {i j : Int} (h : Dst s xs ys i j) (hj : j < xs.length) (hp : del s (ys.getD j.toNat 0) = false) : Dst s xs (ys.set i.toNat (ys.getD j.toNat 0)) (i + 1) (j + 1) := by
  have hg := h.get hj
  have h0 := h.i0
  have hl := h.len
  refine ⟨by omega, by rw [List.length_set]; exact hl, ?_, ?_⟩
  · rw [hg] at hp ⊢
    rw [show (i + 1).toNat = i.toNat + 1 by omega, show (j + 1).toNat = j.toNat + 1 by omega, take_snoc' (show j.toNat < xs.length by omega), List.take_set, List.take_add_one, List.getElem?_eq_getElem (by omega)]
    have hlt : (ys.take i.toNat).length = i.toNat := by rw [List.length_take]; omega
    rw [List.set_append_right _ _ (by omega), hlt, Nat.sub_self]
    simp only [Option.toList_some, List.set_cons_zero]
    rw [h.head]
    unfold kept
    rw [List.filter_append, List.filter_cons, if_pos (by rw [hp]; rfl), List.filter_nil]
  · have := congrArg (List.drop 1) h.tail
    rw [List.drop_drop, List.drop_drop, show j.toNat + 1 = (j + 1).toNat by omega] at this
    rw [List.drop_set_of_lt (by omega)]
    exact this
theorem Dst.done {s : Int} {xs ys : List Int} {i j : Int} (h : Dst s xs ys i j) (hj : ¬ j < xs.length) : ys.take i.toNat = kept s xs := by
  have := h.i0
  rw [h.head, List.take_of_length_le (by omega)]
/-- Another set lies between, among the first k. -/
def btw (xs : List Int) (s x : Int) (k : Nat) : Bool := (List.range k).any fun j => ((!decide (xs.getD j 0 = s) && iw (xs.getD j 0) s) && !decide (xs.getD j 0 = x)) && iw x (xs.getD j 0)
def rblw (xs : List Int) (s : Int) : Nat → List Int
  | 0 => []
  | k + 1 => if ((!decide (xs.getD k 0 = s) && iw (xs.getD k 0) s) && !decide (xs.getD k 0 ∈ rblw xs s k)) && !btw xs s (xs.getD k 0) xs.length then rblw xs s k ++ [xs.getD k 0] else rblw xs s k
theorem del_eq (s y : Int) : (!del s y) = (!decide (y = s) && iw y s) := by unfold del; cases decide (y = s) <;> cases iw y s <;> rfl
end Go.Fw.Hu.Ab
namespace Go.Fw.Hu
open Gu
theorem ab_iff {xs : List Int} {s x : Int} : x ∈ Ab.blw xs s ↔ (x ∈ xs ∧ x ≠ s ∧ wi s x = true) ∧ ∀ t ∈ xs, t ≠ s → wi s t = true → t ≠ x → wi t x = false := by
  unfold Ab.blw
  rw [extr_iff]
  have hk : ∀ y, y ∈ Ab.kept s xs ↔ y ∈ xs ∧ y ≠ s ∧ wi s y = true := fun y => by
    unfold Ab.kept
    rw [List.mem_filter, Ab.del_eq]
    simp
  have hg : (∃ j, j < (Ab.kept s xs).length ∧ (Ab.kept s xs).getD j 0 = x) ↔ x ∈ Ab.kept s xs := by
    constructor
    · rintro ⟨j, hj, rfl⟩; exact getD_mem' hj
    · intro h
      obtain ⟨j, hj, e⟩ := List.mem_iff_getElem.1 h
      exact ⟨j, hj, by rw [List.getD_eq_getElem?_getD, List.getElem?_eq_getElem hj]; exact e⟩
  rw [hg, hk]
  refine and_congr_right fun _ => ?_
  rw [List.any_eq_false]
  constructor
  · intro h t h1 h2 h3 h4
    have := h t ((hk t).2 ⟨h1, h2, h3⟩)
    rw [decide_eq_false h4] at this
    simpa using this
  · intro h t ht
    obtain ⟨h1, h2, h3⟩ := (hk t).1 ht
    by_cases h4 : t = x
    · rw [decide_eq_true h4]; simp
    · have := h t h1 h2 h3 h4
      simp only [this, Bool.and_false]
      decide
theorem flt_lt {p q : Int → Bool} : ∀ {xs : List Int}, (∀ x ∈ xs, p x = true → q x = true) → (∃ x ∈ xs, q x = true ∧ p x = false) → (xs.filter p).length < (xs.filter q).length
  | [], _, h => by obtain ⟨x, h, _⟩ := h; cases h
  | y :: xs, h, hex => by
    have hle : ∀ {ys : List Int}, (∀ x ∈ ys, p x = true → q x = true) → (ys.filter p).length ≤ (ys.filter q).length := by
      intro ys
      induction ys with
      | nil => intro _; exact Nat.le_refl _
      | cons z ys ih =>
        intro hz
        have := ih fun x hx => hz x (List.mem_cons_of_mem _ hx)
        by_cases hp : p z = true
        · rw [List.filter_cons_of_pos hp, List.filter_cons_of_pos (hz z List.mem_cons_self hp)]
          simpa using this
        · rw [List.filter_cons_of_neg hp]
          by_cases hq : q z = true
          · rw [List.filter_cons_of_pos hq]; simp only [List.length_cons]; omega
          · rw [List.filter_cons_of_neg hq]; exact this
    have h' : ∀ x ∈ xs, p x = true → q x = true := fun x hx => h x (List.mem_cons_of_mem _ hx)
    obtain ⟨x, hx, h1, h2⟩ := hex
    rcases List.mem_cons.1 hx with rfl | hx
    · rw [List.filter_cons_of_neg (by rw [h2]; decide), List.filter_cons_of_pos h1]
      have := hle h'
      simp only [List.length_cons]
      omega
    · have := flt_lt h' ⟨x, hx, h1, h2⟩
      by_cases hp : p y = true
      · rw [List.filter_cons_of_pos hp, List.filter_cons_of_pos (h y List.mem_cons_self hp)]
        simpa using this
      · rw [List.filter_cons_of_neg hp]
        by_cases hq : q y = true
        · rw [List.filter_cons_of_pos hq]; simp only [List.length_cons]; omega
        · rw [List.filter_cons_of_neg hq]; exact this
/-- Above a set there is a least one within each that lies above. -/
theorem ab_ex {xs : List Int} {s to : Int} (hr : ∀ x ∈ xs, R64 x) (hto : R64 to) : ∀ (n : Nat) (t : Int), t ∈ xs → t ≠ s → wi s t = true → wi t to = true → (xs.filter fun u => wi u t).length ≤ n → ∃ x ∈ Ab.blw xs s, wi x to = true
  | 0, t, ht, _, _, _, hn => by
    have h0 : xs.filter (fun u => wi u t) = [] := List.eq_nil_of_length_eq_zero (by omega)
    have : t ∈ xs.filter (fun u => wi u t) := List.mem_filter.2 ⟨ht, wi_refl (hr t ht)⟩
    rw [h0] at this
    cases this
  | n + 1, t, ht, hne, h1, h2, hn => by
    by_cases h : ∃ u ∈ xs, u ≠ s ∧ wi s u = true ∧ u ≠ t ∧ wi u t = true
    · obtain ⟨u, hu, h3, h4, h5, h6⟩ := h
      have hlt := flt_lt (p := fun v => wi v u) (q := fun v => wi v t) (xs := xs) (fun v hv h7 => wi_trans (hr v hv) (hr u hu) h7 h6) ⟨t, ht, wi_refl (hr t ht), by
        cases h8 : wi t u with
        | false => rfl
        | true => exact absurd (wi_anti (hr u hu) (hr t ht) h6 h8) h5⟩
      exact ab_ex hr hto n u hu h3 h4 (wi_trans (hr u hu) (hr t ht) h6 h2) (by omega)
    · refine ⟨t, ab_iff.2 ⟨⟨ht, hne, h1⟩, fun u hu h3 h4 h5 => ?_⟩, h2⟩
      cases h6 : wi u t with
      | false => rfl
      | true => exact absurd ⟨u, hu, h3, h4, h5, h6⟩ h
/-- How many sets lie above one and within another. -/
def mPa (xs : List Int) (to a : Int) : Nat := (xs.filter fun u => (wi a u && wi u to) && !decide (u = a)).length
theorem mPa_lt {xs : List Int} {to a x : Int} (hr : ∀ x ∈ xs, R64 x) (ha : R64 a) (hx : x ∈ Ab.blw xs a) (hto : wi x to = true) : mPa xs to x < mPa xs to a := by
  obtain ⟨⟨h1, h2, h3⟩, _⟩ := ab_iff.1 hx
  refine flt_lt (fun u hu h => ?_) ⟨x, h1, ?_, ?_⟩
  · simp only [Bool.and_eq_true, Bool.not_eq_true', decide_eq_false_iff_not] at h ⊢
    refine ⟨⟨wi_trans ha (hr x h1) h3 h.1.1, h.1.2⟩, fun e => ?_⟩
    subst e
    exact h2 (wi_anti (hr x h1) ha h.1.1 h3)
  · simp only [Bool.and_eq_true, Bool.not_eq_true', decide_eq_false_iff_not]
    exact ⟨⟨h3, hto⟩, h2⟩
  · show ((wi x x && wi x to) && !decide (x = x)) = false
    rw [decide_eq_true rfl, Bool.not_true, Bool.and_false]
/-- The step of a path: what is found in the list of those above. -/
theorem pa_next {xs : List Int} {to a : Int} (hr : ∀ x ∈ xs, R64 x) (ha : a ∈ xs) (hto : to ∈ xs) (hw : wi a to = true) (hne : ¬ a = to) : ∃ x ∈ Ab.blw xs a, wi x to = true :=
  ab_ex hr (hr to hto) _ to hto (fun e => hne e.symm) hw (wi_refl (hr to hto)) (Nat.le_refl _)
def clo (xs : List Int) (s : Int) : Nat → Int
  | 0 => -1
  | k + 1 => if wi s (xs.getD k 0) then iand (clo xs s k) (xs.getD k 0) else clo xs s k
theorem clo_t {xs : List Int} {s i : Int} (hi : 0 ≤ i) (h : wi s (xs.getD i.toNat 0) = true) : clo xs s (i + 1).toNat = iand (clo xs s i.toNat) (xs.getD i.toNat 0) := by
  rw [show (i + 1).toNat = i.toNat + 1 by omega, clo, if_pos h]
theorem clo_f {xs : List Int} {s i : Int} (hi : 0 ≤ i) (h : wi s (xs.getD i.toNat 0) = false) : clo xs s (i + 1).toNat = clo xs s i.toNat := by
  rw [show (i + 1).toNat = i.toNat + 1 by omega, clo, if_neg (by rw [h]; decide)]
theorem pw32 {n : Nat} (h : n ≤ 32) : 1 ≤ (1 * 2 ^ (min ((ofq (n : Int)).toNat : Int).toNat 64) : Int) ∧ (1 * 2 ^ (min ((ofq (n : Int)).toNat : Int).toNat 64) : Int) ≤ 4294967296 := by
  have hq : ((ofq (n : Int)).toNat : Int) = n := by rw [ofq_toNat]; omega
  rw [hq, Int.toNat_natCast, Nat.min_eq_left (by omega), Int.one_mul]
  have h1 : (2 : Nat) ^ n ≤ 4294967296 := Nat.le_trans (Nat.pow_le_pow_right (by decide) h) (by decide)
  have h2 : 1 ≤ (2 : Nat) ^ n := Nat.one_le_two_pow
  have e : ((2 : Int) ^ n) = ((2 ^ n : Nat) : Int) := by simp
  rw [e]
  obtain ⟨m, hm⟩ : ∃ m, m = 2 ^ n := ⟨_, rfl⟩
  rw [← hm] at h1 h2 ⊢
  omega
/-! ### the reference's Line -/
section
variable {xs : List Int} {ms A p : List Int}
theorem ats_ok (h : ∀ k, k < p.length → 0 ≤ (ats xs p).getD k 0) : (-1 : Int) ∉ ats xs p := fun hm => by
  obtain ⟨k, hk, e⟩ := List.mem_iff_getElem.1 hm
  rw [ats_len] at hk
  have := h k hk
  rw [List.getD_eq_getElem?_getD, List.getElem?_eq_getElem (by rw [ats_len]; exact hk)] at this
  simp only [Option.getD_some] at this
  omega
end
end Go.Fw.Hu
end

section
/- hunt: what is found is guilty. -/
namespace Go.Fw.Hu
open Gu
/-! ### truths -/
def tmk (xb bad : List Bool) (i : Nat) : Int := if xb.getD i false then (if bad.getD i false then 2 else 1) else 0
def tms (xb bad : List Bool) (n : Nat) : List Int := (List.range n).map (tmk xb bad)
def gtL (xs : List Int) (xb : List Bool) (T : List Int) : Nat → List Int
  | 0 => []
  | k + 1 => if decide (T.getD k 0 = 2) && !cov xs xb T k then gtL xs xb T k ++ [xs.getD k 0] else gtL xs xb T k
def gty (xs : List Int) (xb bad : List Bool) : List Int := gtL xs xb (tms xb bad xs.length) xs.length
theorem tms_get (xb bad : List Bool) {n i : Nat} (h : i < n) : (tms xb bad n).getD i 0 = tmk xb bad i := by
  unfold tms
  rw [List.getD_eq_getElem?_getD, List.getElem?_map, List.getElem?_range h]
  rfl
/-! ### among -/
def amg (a b : List Int) : Bool := a.all fun x => decide (x ∈ b)
def amk (x : Int) (b : List Int) (j : Nat) : Bool := decide (x ∈ b.take j)
/-! ### sets below -/
section
variable {xs : List Int} {xb : List Bool} {ks : List (List UInt8)} {m T : List Int}
/-- What is known agrees with truths. -/
def Par (n : Nat) (m T : List Int) : Prop := ∀ i, i < n → m.getD i 0 = 0 ∨ m.getD i 0 = T.getD i 0
/-- Nothing is left to be asked. -/
def Dn (xs : List Int) (xb : List Bool) (m : List Int) : Prop := ∀ i, i < xs.length → xb.getD i false = true → cov xs xb m i = false → m.getD i 0 ≠ 0
/-! ### what is open -/
end
end Go.Fw.Hu
end

section
/- hunt: telling keeps to the truth; what Run finds. -/
namespace Go.Fw.Hu
open Gu
structure Ok9 (xs : List Int) (xb : List Bool) (ks : List (List UInt8)) (bad : List Bool) (m : List Int) : Prop where
  fit : fitB xs xb ks m = true
  par : Par xs.length m (tms xb bad xs.length)
/-- Truths of one class are the same. -/
def Cls (ks : List (List UInt8)) (bad : List Bool) (n : Nat) : Prop := ∀ i j, i < n → j < n → ks.getD i [] = ks.getD j [] → bad.getD i false = bad.getD j false
theorem nod_of {xs : List Int} (h : xs.Nodup) : nod xs = true := nod_ok fun i hi k hk e => by
  have := nodup_getD h (by omega) hi e.symm
  omega
theorem ord_of {xs : List Int} {xb : List Bool} (h : xs.Nodup) (h2 : xb.length = xs.length) : ordB xs xb = true := by unfold ordB; rw [nod_of h, decide_eq_true h2]; rfl
section
variable {xs : List Int} {xb : List Bool} {ks : List (List UInt8)} {bad : List Bool} {m : List Int}
theorem mk_of {b : Nat} (h : xb.getD b false = true) : tmk xb bad b = markOf (bad.getD b false) := by
  unfold tmk markOf
  rw [h]; rfl
theorem ok_new (h : ordB xs xb = true) (hk : ks.length = xs.length) : Ok9 xs xb ks bad (List.replicate ks.length 0) := ⟨fit_new h hk, fun i _ => .inl (getD_rep _ _)⟩
theorem ok_tel (hc : Cls ks bad xs.length) (h : Ok9 xs xb ks bad m) {b : Nat} (hb : b < xs.length) (hx : xb.getD b false = true) :
    telK xs xb ks m (xs.getD b 0) (bad.getD b false) = (ks, tlm xb ks m (b : Int) (markOf (bad.getD b false)) xs.length, 0) ∧ Ok9 xs xb ks bad (tlm xb ks m (b : Int) (markOf (bad.getD b false)) xs.length) ∧ Par xs.length m (tlm xb ks m (b : Int) (markOf (bad.getD b false)) xs.length) := by
  have hn := (fit_use h.fit).1
  have hml := (fit_use h.fit).2.2.2.1
  have hi : ixF (fun y => decide (xs.getD b 0 = y)) xs = (b : Int) := ixS_get hn hb
  have hT := tms_get xb bad hb
  have hp := h.par b hb
  rw [hT, mk_of hx] at hp
  have hg : ∀ j, j < xs.length → (tlm xb ks m (b : Int) (markOf (bad.getD b false)) xs.length).getD j 0 = if (xb.getD j false && decide (ks.getD j [] = ks.getD b [])) then markOf (bad.getD b false) else m.getD j 0 := fun j hj => by
    rw [tlm_get xs.length (by omega), decide_eq_true hj, Bool.true_and, Int.toNat_natCast]
  have hcls : ∀ j, j < xs.length → (xb.getD j false && decide (ks.getD j [] = ks.getD b [])) = true → tmk xb bad j = markOf (bad.getD b false) := fun j hj he => by
    rw [Bool.and_eq_true, decide_eq_true_eq] at he
    rw [mk_of he.1, hc j b hj hb he.2]
  refine ⟨?_, ⟨fit_tel h.fit hb hx (markOf_rng _), fun j hj => ?_⟩, fun j hj => ?_⟩
  · rw [telK_0 h.fit (by rw [hi, Int.toNat_natCast, hx]; rintro (h | h); omega; cases h) (by rw [hi, Int.toNat_natCast]; rintro ⟨h1, h2⟩; rcases hp with h3 | h3; exact h1 h3; exact h2 h3), hi]
  · rw [hg j hj, tms_get xb bad hj]
    split
    · rename_i he
      exact .inr (hcls j hj he).symm
    · have := h.par j hj
      rwa [tms_get xb bad hj] at this
  · rw [hg j hj]
    split
    · rename_i he
      have := h.par j hj
      rw [tms_get xb bad hj, hcls j hj he] at this
      exact this
    · exact .inr rfl
/-! ### Run -/
theorem newK_ok (h : ordB xs xb = true) (hk : ks.length = xs.length) : newK xs xb ks = (ks, List.replicate ks.length 0, 0) := by
  unfold newK
  rw [h, decide_eq_true hk]; rfl
end
end Go.Fw.Hu
end

section
/- hunt: what Run asks is needed. -/
namespace Go.Fw.Hu
open Gu
section
variable {xs : List Int} {xb : List Bool} {ks : List (List UInt8)} {bad : List Bool} {m : List Int}
end
/-! ### as many are needed as were asked -/
def kyS (xs : List Int) (ks : List (List UInt8)) (s : Int) : List UInt8 := ks.getD (ixS xs s).toNat []
section
variable {xs : List Int} {xb : List Bool} {ks : List (List UInt8)} {bad : List Bool} {m : List Int}
/-! ### other truths -/
def oneB (m r : List Int) (ks : List (List UInt8)) (j : Nat) : Bool := decide (m.getD j 0 = 2) || (decide (m.getD j 0 = 0) && decide (atN r (((ks.getD j []).getD 0 0).toNat : Int) 2 = 1))
def onL (m r : List Int) (ks : List (List UInt8)) (n : Nat) : List Bool := (List.range n).map (oneB m r ks)
def twoB (xb : List Bool) (m r : List Int) (ks : List (List UInt8)) (a j : Nat) : Bool := !(oneB m r ks j == (xb.getD j false && decide (ks.getD j [] = ks.getD a [])))
def twL (xb : List Bool) (m r : List Int) (ks : List (List UInt8)) (a n : Nat) : List Bool := (List.range n).map (twoB xb m r ks a)
end
end Go.Fw.Hu
end

section
/- hunt: what the law of the names walks over. -/
namespace Go.Fw.Hu
open Gu
section
variable {xs : List Int} {xb : List Bool} {ks : List (List UInt8)} {bad : List Bool}
def nmd (xs : List Int) (ks : List (List UInt8)) (A : List Int) (k j : Nat) : Bool := decide (ks.getD k [] ∈ (A.take j).map (kyS xs ks))
end
end Go.Fw.Hu
end

section
/- hunt: the lattice of closed sets: one by one up to the greatest. -/
namespace Go.Fw.Hu
open Gu
theorem iand_nat {a b : Nat} (ha : a < 9223372036854775808) (hb : b < 9223372036854775808) : iand (a : Int) (b : Int) = ((a &&& b : Nat) : Int) := by
  unfold iand
  have h : (BitVec.ofInt 64 (a : Int) &&& BitVec.ofInt 64 (b : Int)).toNat = a &&& b := by
    rw [BitVec.toNat_and, BitVec.toNat_ofInt, BitVec.toNat_ofInt]
    congr 1 <;> omega
  rw [h, wrap_small (Nat.lt_of_le_of_lt Nat.and_le_left ha)]
theorem wi_nat {a b : Nat} (ha : a < 9223372036854775808) (hb : b < 9223372036854775808) : wi (a : Int) (b : Int) = true ↔ ∀ i, a.testBit i = true → b.testBit i = true := by
  unfold wi
  rw [iand_nat ha hb, decide_eq_true_eq]
  constructor
  · intro h i hi
    have h' : a &&& b = a := by omega
    rw [← h', Nat.testBit_and] at hi
    exact (Bool.and_eq_true_iff.1 hi).2
  · intro h
    have : a &&& b = a := by
      apply Nat.eq_of_testBit_eq
      intro i
      rw [Nat.testBit_and]
      cases hi : a.testBit i with
      | false => rfl
      | true => rw [h i hi]; rfl
    rw [this]
theorem bit_nat (a i : Nat) : bitB (a : Int) (i : Int) = a.testBit i := by
  unfold bitB
  rw [iand_m1, Int.toNat_natCast, Nat.testBit_eq_decide_div_mod_eq, decide_eq_decide]
  have e : (a : Int) / 2 ^ i % 2 = ((a / 2 ^ i % 2 : Nat) : Int) := by simp
  rw [e]
  omega
theorem pc_or {a i : Nat} (h : a.testBit i = false) : ∀ k, pcN k (a ||| 2 ^ i) = pcN k a + (if i < k then 1 else 0)
  | 0 => by simp [pcN]
  | k + 1 => by
    have ih := pc_or h k
    have hb : ∀ x : Nat, x / 2 ^ k % 2 = if x.testBit k then 1 else 0 := fun x => by
      rw [Nat.testBit_eq_decide_div_mod_eq]
      by_cases hx : x / 2 ^ k % 2 = 1
      · rw [decide_eq_true hx, if_pos rfl, hx]
      · rw [decide_eq_false hx, if_neg (by decide)]; omega
    rw [pcN_succ, pcN_succ, ih, hb, hb, Nat.testBit_or, Nat.testBit_two_pow]
    by_cases hik : i = k
    · subst hik
      rw [h, decide_eq_true rfl]
      simp
    · rw [decide_eq_false hik, Bool.or_false]
      have e : (if i < k + 1 then 1 else 0) = (if i < k then 1 else 0) := by
        by_cases hlt : i < k
        · rw [if_pos hlt, if_pos (by omega)]
        · rw [if_neg hlt, if_neg (by omega)]
      rw [e]
      omega
/-- Closed under what each needs. -/
def Clo (f : Nat → Nat) (n e : Nat) : Prop := ∀ i, i < n → e.testBit i = true → ∀ j, (f i).testBit j = true → e.testBit j = true
theorem low_ex {p : Nat → Bool} : ∀ (n i : Nat), i < n → p i = true → ∃ k, p k = true ∧ ∀ j, j < k → p j = false
  | 0, i, hi, _ => absurd hi (by omega)
  | n + 1, i, hi, h => by
    by_cases hx : ∃ j, j < i ∧ p j = true
    · obtain ⟨j, h1, h2⟩ := hx
      exact low_ex n j (by omega) h2
    · refine ⟨i, h, fun j hj => ?_⟩
      cases hp : p j with
      | false => rfl
      | true => exact absurd ⟨j, hj, hp⟩ hx
theorem tb_lt {a n i : Nat} (h : a < 2 ^ n) (hb : a.testBit i = true) : i < n := by
  rcases Nat.lt_or_ge i n with h' | h'
  · exact h'
  · rw [Nat.testBit_lt_two_pow (Nat.lt_of_lt_of_le h (Nat.pow_le_pow_right (by decide) h'))] at hb
    cases hb
theorem step_nat {f : Nat → Nat} {n a b : Nat} (hf : ∀ i, i < n → f i < 2 ^ i) (ha : a < 2 ^ n) (hb : b < 2 ^ n) (hca : Clo f n a) (hcb : Clo f n b) (hab : ∀ i, a.testBit i = true → b.testBit i = true) (hne : a ≠ b) :
    ∃ i, i < n ∧ a.testBit i = false ∧ b.testBit i = true ∧ Clo f n (a ||| 2 ^ i) ∧ a ||| 2 ^ i < 2 ^ n := by
  have hx : ∃ i, i < n ∧ (b.testBit i && !a.testBit i) = true := by
    refine Classical.byContradiction fun hn => hne (Nat.eq_of_testBit_eq fun i => ?_)
    cases h1 : b.testBit i with
    | false =>
      cases h2 : a.testBit i with
      | false => rfl
      | true => rw [hab i h2] at h1; cases h1
    | true =>
      cases h2 : a.testBit i with
      | true => rfl
      | false => exact absurd ⟨i, tb_lt hb h1, by rw [h1, h2]; rfl⟩ hn
  obtain ⟨i0, hi0, hp0⟩ := hx
  obtain ⟨i, hp, hmin⟩ := low_ex (p := fun i => b.testBit i && !a.testBit i) n i0 hi0 hp0
  simp only [Bool.and_eq_true, Bool.not_eq_true'] at hp
  have hin := tb_lt hb hp.1
  refine ⟨i, hin, hp.2, hp.1, fun j hj hbj k hk => ?_, ?_⟩
  · rw [Nat.testBit_or, Nat.testBit_two_pow] at hbj ⊢
    by_cases hji : i = j
    · subst hji
      have hki : k < i := tb_lt (hf i hin) hk
      have hbk := hcb i hin hp.1 k hk
      have := hmin k hki
      simp only [hbk, Bool.true_and, Bool.not_eq_false'] at this
      rw [this]; rfl
    · rw [decide_eq_false hji, Bool.or_false] at hbj
      rw [hca j hj hbj k hk]; rfl
  · exact Nat.or_lt_two_pow ha (Nat.pow_lt_pow_right (by decide) hin)
/-- What the lattice of closed sets is. -/
def Stp (n : Nat) (xs : List Int) : Prop := (0 : Int) ∈ xs ∧ ((2 ^ n - 1 : Nat) : Int) ∈ xs ∧ (∀ x ∈ xs, 0 ≤ x ∧ x < ((2 ^ n : Nat) : Int)) ∧ ∀ a ∈ xs, ∀ b ∈ xs, wi a b = true → a ≠ b → ∃ c ∈ xs, wi a c = true ∧ wi c b = true ∧ size c 64 = size a 64 + 1
def clB (g : Int → Int) (n : Nat) (e : Int) : Bool := (List.range n).all fun i => !bitB e (i : Int) || wi (g (i : Int)) e
def clA (g : Int → Int) (e : Int) (i : Nat) : Bool := (List.range i).all fun i => !bitB e (i : Int) || wi (g (i : Int)) e
theorem clA_succ (g : Int → Int) (e : Int) (i : Nat) : clA g e (i + 1) = (clA g e i && (!bitB e (i : Int) || wi (g (i : Int)) e)) := by
  unfold clA
  rw [List.range_succ, List.all_append]
  simp
theorem clB_iff {g : Int → Int} {f : Nat → Nat} {n e : Nat} (hn : n ≤ 5) (hg : ∀ i : Nat, i < n → g (i : Int) = (f i : Int)) (hf : ∀ i, i < n → f i < 2 ^ i) (he : e < 9223372036854775808) : clB g n (e : Int) = true ↔ Clo f n e := by
  unfold clB Clo
  rw [List.all_eq_true]
  have hb : ∀ i, i < n → f i < 9223372036854775808 := fun i hi => Nat.lt_of_lt_of_le (hf i hi) (Nat.le_trans (Nat.pow_le_pow_right (by decide) (show i ≤ 5 by omega)) (by decide))
  constructor
  · intro h i hi hbit j hj
    have := h i (List.mem_range.2 hi)
    rw [bit_nat, hbit, hg i hi] at this
    exact (wi_nat (hb i hi) he).1 (by simpa using this) j hj
  · intro h i hi
    rw [List.mem_range] at hi
    rw [bit_nat, hg i hi]
    cases hbit : e.testBit i with
    | false => rfl
    | true => rw [(wi_nat (hb i hi) he).2 (h i hi hbit)]; rfl
theorem stp_of {xs ys : List Int} {g : Int → Int} {n : Nat} (hn : n ≤ 5) (hg : ∀ i : Nat, i < n → 0 ≤ g (i : Int) ∧ g (i : Int) < ((2 ^ i : Nat) : Int)) (hp : xs.Perm ys) (hy : ∀ y, y ∈ ys ↔ (0 ≤ y ∧ y < ((2 ^ n : Nat) : Int)) ∧ clB g n y = true) : Stp n xs := by
  have hx : ∀ y, y ∈ xs ↔ (0 ≤ y ∧ y < ((2 ^ n : Nat) : Int)) ∧ clB g n y = true := fun y => by rw [hp.mem_iff, hy]
  have hfg : ∀ i : Nat, i < n → g (i : Int) = (((fun i : Nat => (g (i : Int)).toNat) i : Nat) : Int) := fun i hi => by have := hg i hi; show _ = (((g (i : Int)).toNat : Nat) : Int); omega
  have hf : ∀ i, i < n → (fun i : Nat => (g (i : Int)).toNat) i < 2 ^ i := fun i hi => by have := hg i hi; show (g (i : Int)).toNat < 2 ^ i; omega
  have h32 : (2 : Nat) ^ n ≤ 32 := Nat.le_trans (Nat.pow_le_pow_right (by decide) hn) (by decide)
  have h1 : 1 ≤ (2 : Nat) ^ n := Nat.one_le_two_pow
  have hcl : ∀ e : Nat, e < 2 ^ n → ((e : Int) ∈ xs ↔ Clo (fun i : Nat => (g (i : Int)).toNat) n e) := fun e he => by
    rw [hx, clB_iff hn hfg hf (by omega)]
    exact ⟨fun h => h.2, fun h => ⟨⟨by omega, by omega⟩, h⟩⟩
  refine ⟨(hcl 0 (by omega)).2 fun i _ h => ?_, (hcl (2 ^ n - 1) (by omega)).2 fun i hi _ j hj => ?_, fun x h => ((hx x).1 h).1, fun a ha b hb hab hne => ?_⟩
  · rw [Nat.zero_testBit] at h; cases h
  · rw [Nat.testBit_two_pow_sub_one]
    have := tb_lt (hf i hi) hj
    exact decide_eq_true (by omega)
  · obtain ⟨a0, a1⟩ := ((hx a).1 ha).1
    obtain ⟨b0, b1⟩ := ((hx b).1 hb).1
    obtain ⟨a, rfl⟩ : ∃ k : Nat, a = (k : Int) := ⟨a.toNat, by omega⟩
    obtain ⟨b, rfl⟩ : ∃ k : Nat, b = (k : Int) := ⟨b.toNat, by omega⟩
    have hab' := (wi_nat (by omega) (by omega)).1 hab
    obtain ⟨i, i1, i2, i3, i4, i5⟩ := step_nat hf (show a < 2 ^ n by omega) (show b < 2 ^ n by omega) ((hcl a (by omega)).1 ha) ((hcl b (by omega)).1 hb) hab' (by omega)
    refine ⟨((a ||| 2 ^ i : Nat) : Int), (hcl _ i5).2 i4, (wi_nat (by omega) (by omega)).2 fun j hj => by rw [Nat.testBit_or, hj]; rfl, (wi_nat (by omega) (by omega)).2 fun j hj => ?_, ?_⟩
    · rw [Nat.testBit_or, Nat.testBit_two_pow] at hj
      rcases Bool.or_eq_true_iff.1 hj with h | h
      · exact hab' j h
      · have := of_decide_eq_true h; subst this; exact i3
    · rw [size_pc _ 64 (Nat.le_refl _), size_pc _ 64 (Nat.le_refl _)]
      have e1 : (((a ||| 2 ^ i : Nat) : Int) % 18446744073709551616).toNat = a ||| 2 ^ i := by omega
      have e2 : ((a : Int) % 18446744073709551616).toNat = a := by omega
      rw [e1, e2, pc_or i2 64, if_pos (by omega)]
      omega
/-! ### the numbers of elements -/
theorem pc_full : ∀ n, pcN 64 (2 ^ n - 1) = min n 64 := by
  have key : ∀ n k, pcN k (2 ^ n - 1) = min n k := by
    intro n k
    induction k with
    | zero => simp [pcN]
    | succ k ih =>
      have hb : ((2 ^ n - 1) / 2 ^ k % 2 : Nat) = if k < n then 1 else 0 := by
        have := Nat.testBit_two_pow_sub_one n k
        rw [Nat.testBit_eq_decide_div_mod_eq] at this
        by_cases hk : k < n
        · rw [decide_eq_true hk, decide_eq_true_eq] at this; rw [if_pos hk, this]
        · rw [decide_eq_false hk, decide_eq_false_iff_not] at this; rw [if_neg hk]; omega
      rw [pcN_succ, ih, hb]
      split <;> omega
  exact fun n => key n 64
theorem size_full {n : Nat} (hn : n ≤ 5) : size ((2 ^ n - 1 : Nat) : Int) 64 = n := by
  have h32 : (2 : Nat) ^ n ≤ 32 := Nat.le_trans (Nat.pow_le_pow_right (by decide) hn) (by decide)
  rw [size_pc _ 64 (Nat.le_refl _)]
  have e : (((2 ^ n - 1 : Nat) : Int) % 18446744073709551616).toNat = 2 ^ n - 1 := by omega
  rw [e, pc_full]
  omega
theorem size_zero : size 0 64 = 0 := by
  rw [size_pc _ 64 (Nat.le_refl _)]
  have := pc_full 0
  simpa using this
end Go.Fw.Hu
end

section
/- hunt: a path of single steps; a search along it. -/
namespace Go.Fw.Hu
open Gu
def Stq (xs : List Int) : Prop := ∀ a ∈ xs, ∀ b ∈ xs, wi a b = true → a ≠ b → ∃ c ∈ xs, wi a c = true ∧ wi c b = true ∧ size c 64 = size a 64 + 1
theorem ab_one {xs : List Int} (hr : ∀ x ∈ xs, R64 x) (hq : Stq xs) {a x : Int} (ha : a ∈ xs) (h : x ∈ Ab.blw xs a) : x ∈ xs ∧ size x 64 = size a 64 + 1 := by
  obtain ⟨⟨h1, h2, h3⟩, h4⟩ := ab_iff.1 h
  obtain ⟨c, c1, c2, c3, c4⟩ := hq a ha x h1 h3 (fun e => h2 e.symm)
  by_cases hc : c = x
  · subst hc; exact ⟨h1, c4⟩
  · have := h4 c c1 (fun e => by rw [e] at c4; omega) c2 hc
    rw [c3] at this
    cases this
structure Pth (xs : List Int) (f : Int) (L : List Int) (c : Int) : Prop where
  pos : 0 < L.length
  head : L.getD 0 0 = f
  last : L.getD (L.length - 1) 0 = c
  all : ∀ i, i < L.length → L.getD i 0 ∈ xs ∧ size (L.getD i 0) 64 = size f 64 + (i : Int)
theorem getD_app_l {l r : List Int} {i : Nat} (h : i < l.length) : (l ++ r).getD i 0 = l.getD i 0 := by
  rw [List.getD_eq_getElem?_getD, List.getElem?_append_left h, ← List.getD_eq_getElem?_getD]
theorem getD_app_r {l : List Int} {x : Int} : (l ++ [x]).getD l.length 0 = x := by
  rw [List.getD_eq_getElem?_getD, List.getElem?_append_right (Nat.le_refl _), Nat.sub_self]
  rfl
theorem pth_start {xs : List Int} {f : Int} (h : f ∈ xs) : Pth xs f [f] f := ⟨by simp, rfl, rfl, fun i hi => by
  have : i = 0 := by simpa using hi
  subst this
  exact ⟨h, by simp⟩⟩
theorem pth_step {xs : List Int} {f c x : Int} {L : List Int} (hr : ∀ x ∈ xs, R64 x) (hq : Stq xs) (h : Pth xs f L c) (hx : x ∈ Ab.blw xs c) : Pth xs f (L ++ [x]) x := by
  have hp := h.pos
  have hc := h.all (L.length - 1) (by omega)
  rw [h.last] at hc
  obtain ⟨x1, x2⟩ := ab_one hr hq hc.1 hx
  refine ⟨by simp, ?_, ?_, fun i hi => ?_⟩
  · rw [getD_app_l hp]; exact h.head
  · rw [List.length_append, List.length_singleton, Nat.add_sub_cancel]; exact getD_app_r
  · rw [List.length_append, List.length_singleton] at hi
    by_cases hl : i < L.length
    · rw [getD_app_l hl]; exact h.all i hl
    · obtain rfl : i = L.length := by omega
      rw [getD_app_r]
      exact ⟨x1, by rw [x2, hc.2]; omega⟩
theorem pth_len {xs : List Int} {f c : Int} {L : List Int} (h : Pth xs f L c) : (L.length : Int) = size c 64 - size f 64 + 1 := by
  have hp := h.pos
  have hc := (h.all (L.length - 1) (by omega)).2
  rw [h.last] at hc
  omega
theorem pth_le {xs : List Int} {f c : Int} {L : List Int} (h : Pth xs f L c) : L.length ≤ 65 := by
  have h1 := pth_len h
  have h2 := size_le c 64
  have h3 := size_le f 64
  omega
theorem pth_mem {xs : List Int} {f c : Int} {L : List Int} (h : Pth xs f L c) : ∀ x ∈ L, x ∈ xs := fun x hx => by
  obtain ⟨i, hi, rfl⟩ := List.mem_iff_getElem.1 hx
  have := (h.all i hi).1
  rwa [List.getD_eq_getElem?_getD, List.getElem?_eq_getElem hi] at this
theorem pth_inj {xs : List Int} {f c : Int} {L : List Int} (h : Pth xs f L c) {i j : Nat} (hi : i < L.length) (hj : j < L.length) (e : L.getD i 0 = L.getD j 0) : i = j := by
  have h1 := (h.all i hi).2
  have h2 := (h.all j hj).2
  rw [e] at h1
  omega
/-- What the searched list holds when the search is over. -/
theorem ab_miss {la : List Int} {t : Int} {k : Int} (hk : ¬ k < la.length) (h0 : 0 ≤ k) (hno : ∀ j, j < k.toNat → wi (la.getD j 0) t = false) (hex : ∃ x ∈ la, wi x t = true) : False := by
  obtain ⟨x, hx, hw⟩ := hex
  obtain ⟨j, hj, rfl⟩ := List.mem_iff_getElem.1 hx
  have := hno j (by omega)
  rw [List.getD_eq_getElem?_getD, List.getElem?_eq_getElem hj, Option.getD_some, hw] at this
  cases this
theorem pw_eq {x : Int} (h : 0 ≤ x ∧ x ≤ 5) : (1 * 2 ^ (min ((ofq x).toNat : Int).toNat 64) : Int) = ((2 ^ x.toNat : Nat) : Int) := by
  have : x = 0 ∨ x = 1 ∨ x = 2 ∨ x = 3 ∨ x = 4 ∨ x = 5 := by omega
  rcases this with rfl | rfl | rfl | rfl | rfl | rfl <;> decide
def famG (l : List Int) (i : Int) : Int := atN l (1 + i) (1 * 2 ^ (min ((ofq i).toNat : Int).toNat 64))
theorem fam_stp {xs ys l : List Int} {N : Int} (hN : 0 ≤ N ∧ N ≤ 5) (hp : xs.Perm ys) (hy : ∀ y, y ∈ ys ↔ (0 ≤ y ∧ y < (1 * 2 ^ (min ((ofq N).toNat : Int).toNat 64) : Int)) ∧ clB (famG l) N.toNat y = true) : Stp N.toNat xs := by
  refine stp_of (g := famG l) (ys := ys) (by omega) (fun i hi => ?_) hp fun y => ?_
  · have h1 := pw_eq (x := (i : Int)) (by omega)
    unfold famG
    rw [h1, Int.toNat_natCast]
    have h2 : (0 : Int) < ((2 ^ i : Nat) : Int) := by have := Nat.one_le_two_pow (n := i); omega
    exact atN_range h2
  · rw [hy, pw_eq hN]
end Go.Fw.Hu
namespace Go.Fw.Hu
theorem cl_snoc {P : Int → Bool} {ys : List Int} {e : Int} (he : 0 ≤ e) (h : ∀ y, y ∈ ys ↔ (0 ≤ y ∧ y < e) ∧ P y = true) (hp : P e = true) : ∀ y, y ∈ ys ++ [e] ↔ (0 ≤ y ∧ y < e + 1) ∧ P y = true := fun y => by
  rw [List.mem_append, List.mem_singleton, h]
  constructor
  · rintro (h1 | rfl)
    · exact ⟨⟨h1.1.1, by omega⟩, h1.2⟩
    · exact ⟨⟨he, by omega⟩, hp⟩
  · rintro ⟨⟨h1, h2⟩, h3⟩
    by_cases hy : y = e
    · exact .inr hy
    · exact .inl ⟨⟨h1, by omega⟩, h3⟩
theorem cl_skip {P : Int → Bool} {ys : List Int} {e : Int} (h : ∀ y, y ∈ ys ↔ (0 ≤ y ∧ y < e) ∧ P y = true) (hp : P e = false) : ∀ y, y ∈ ys ↔ (0 ≤ y ∧ y < e + 1) ∧ P y = true := fun y => by
  rw [h]
  constructor
  · rintro ⟨⟨h1, h2⟩, h3⟩; exact ⟨⟨h1, by omega⟩, h3⟩
  · rintro ⟨⟨h1, h2⟩, h3⟩
    refine ⟨⟨h1, ?_⟩, h3⟩
    by_cases hy : y = e
    · subst hy; rw [hp] at h3; cases h3
    · omega
end Go.Fw.Hu
end

section
/- hunt: a search along a path. -/
namespace Go.Fw.Hu
open Gu
theorem iand_m1l {s : Int} (h : 0 ≤ s ∧ s < 9223372036854775808) : iand (-1) s = s := by
  obtain ⟨n, rfl⟩ : ∃ n : Nat, s = (n : Int) := ⟨s.toNat, by omega⟩
  unfold iand
  have e : (BitVec.ofInt 64 (-1) &&& BitVec.ofInt 64 (n : Int)).toNat = n := by
    rw [show BitVec.ofInt 64 (-1) = BitVec.allOnes 64 from rfl, BitVec.allOnes_and, BitVec.toNat_ofInt]
    omega
  rw [e, wrap_small (by omega)]
theorem clo_full {xs : List Int} {n : Nat} (hn : n ≤ 5) (h : Stp n xs) : clo xs ((2 ^ n - 1 : Nat) : Int) xs.length = ((2 ^ n - 1 : Nat) : Int) := by
  have h32 : (2 : Nat) ^ n ≤ 32 := Nat.le_trans (Nat.pow_le_pow_right (by decide) hn) (by decide)
  obtain ⟨_, h2, h3, _⟩ := h
  have key : ∀ k, k ≤ xs.length → clo xs ((2 ^ n - 1 : Nat) : Int) k = if ((2 ^ n - 1 : Nat) : Int) ∈ xs.take k then ((2 ^ n - 1 : Nat) : Int) else -1 := by
    intro k
    induction k with
    | zero => intro _; rfl
    | succ k ih =>
      intro hk
      have ih := ih (by omega)
      have hx := h3 _ (getD_mem' (xs := xs) (k := k) (by omega))
      rw [clo, ih, take_snoc' (by omega)]
      by_cases hw : wi ((2 ^ n - 1 : Nat) : Int) (xs.getD k 0) = true
      · have he : xs.getD k 0 = ((2 ^ n - 1 : Nat) : Int) := by
          refine (wi_anti ⟨by omega, by omega⟩ ⟨by omega, by omega⟩ hw ?_).symm
          obtain ⟨a, ha⟩ : ∃ a : Nat, xs.getD k 0 = (a : Int) := ⟨(xs.getD k 0).toNat, by omega⟩
          rw [ha] at hx ⊢
          refine (wi_nat (by omega) (by omega)).2 fun i hi => ?_
          rw [Nat.testBit_two_pow_sub_one]
          exact decide_eq_true (tb_lt (show a < 2 ^ n by omega) hi)
        rw [if_pos hw, he, if_pos (show ((2 ^ n - 1 : Nat) : Int) ∈ xs.take k ++ [((2 ^ n - 1 : Nat) : Int)] from List.mem_append.2 (.inr (List.mem_singleton.2 rfl)))]
        split
        · rw [iand_nat (by omega) (by omega), Nat.and_self]
        · exact iand_m1l (s := ((2 ^ n - 1 : Nat) : Int)) ⟨by omega, by omega⟩
      · rw [if_neg hw]
        have hne : ((2 ^ n - 1 : Nat) : Int) ≠ xs.getD k 0 := fun e => by
          rw [← e] at hw
          exact hw (wi_refl ⟨by omega, by omega⟩)
        simp only [List.mem_append, List.mem_singleton, hne, or_false]
  rw [key _ (Nat.le_refl _), List.take_length, if_pos h2]
/-- Where the sets of a path stand. -/
def pa (xs p : List Int) (i : Nat) : Nat := (ixS xs (p.getD i 0)).toNat
section
variable {xs : List Int} {xb : List Bool} {ks : List (List UInt8)} {bad : List Bool} {m p : List Int} {t : Int}
theorem pa_spec (hn : xs.Nodup) (hp : Pth xs 0 p t) {i : Nat} (hi : i < p.length) : pa xs p i < xs.length ∧ xs.getD (pa xs p i) 0 = p.getD i 0 ∧ ixS xs (p.getD i 0) = (pa xs p i : Int) ∧ (ats xs p).getD i 0 = (pa xs p i : Int) := by
  have hm := (hp.all i hi).1
  obtain ⟨j, hj, e⟩ := List.mem_iff_getElem.1 hm
  have hg : xs.getD j 0 = p.getD i 0 := by rw [List.getD_eq_getElem?_getD, List.getElem?_eq_getElem hj]; exact e
  have hx : ixS xs (p.getD i 0) = (j : Int) := by rw [← hg]; exact ixS_get (nod_of hn) hj
  have hpa : pa xs p i = j := by unfold pa; rw [hx, Int.toNat_natCast]
  rw [hpa]
  refine ⟨hj, hg, hx, ?_⟩
  unfold ats
  rw [List.getD_eq_getElem?_getD, List.getElem?_map, List.getElem?_eq_getElem hi]
  show ixS xs p[i] = _
  have : p[i] = p.getD i 0 := by rw [List.getD_eq_getElem?_getD, List.getElem?_eq_getElem hi]; rfl
  rw [this, hx]
theorem pa_inj (hn : xs.Nodup) (hp : Pth xs 0 p t) {i j : Nat} (hi : i < p.length) (hj : j < p.length) (h : pa xs p i = pa xs p j) : i = j := by
  have h1 := (pa_spec hn hp hi).2.1
  have h2 := (pa_spec hn hp hj).2.1
  rw [h, h2] at h1
  exact (pth_inj hp hj hi h1).symm
/-- Where a search stands. -/
structure Sch (xs : List Int) (xb : List Bool) (ks : List (List UInt8)) (bad : List Bool) (p m : List Int) (lo hi : Nat) : Prop where
  ok : Ok9 xs xb ks bad m
  lt : lo < hi ∧ hi < p.length
  mlo : m.getD (pa xs p lo) 0 = 1
  mhi : m.getD (pa xs p hi) 0 = 2
  mid : ∀ i, lo < i → i < hi → m.getD (pa xs p i) 0 = 0
  low : ∀ i, i < lo → m.getD (pa xs p i) 0 ≠ 2
  m0 : m.getD (pa xs p 0) 0 = 1
  mN : m.getD (pa xs p (p.length - 1)) 0 = 2
theorem sch_H (hn : xs.Nodup) (hp : Pth xs 0 p t) {lo hi : Nat} (h : Sch xs xb ks bad p m lo hi) : lnH m (ats xs p) = (hi : Int) := by
  unfold lnH
  have hl := h.lt
  refine ixF_at (by rw [ats_len]; omega) ?_ fun j hj => ?_
  · rw [(pa_spec hn hp hl.2).2.2.2]
    unfold mk2
    rw [Int.toNat_natCast, h.mhi]; rfl
  · rw [(pa_spec hn hp (show j < p.length by omega)).2.2.2]
    unfold mk2
    rw [Int.toNat_natCast]
    refine decide_eq_false fun e => ?_
    rcases Nat.lt_trichotomy j lo with h1 | h1 | h1
    · exact h.low j h1 e
    · rw [h1, h.mlo] at e; cases e
    · rw [h.mid j h1 hj] at e; cases e
theorem sch_L (hn : xs.Nodup) (hp : Pth xs 0 p t) {lo hi : Nat} (h : Sch xs xb ks bad p m lo hi) : lnLow m (ats xs p) = (lo : Int) := by
  have hl := h.lt
  have key : ∀ d, lo + 1 + d ≤ hi → lnLo m (ats xs p) (lo + 1 + d) = (lo : Int) := by
    intro d
    induction d with
    | zero =>
      intro _
      rw [Nat.add_zero, lnLo, (pa_spec hn hp (show lo < p.length by omega)).2.2.2, Int.toNat_natCast, if_pos h.mlo]
    | succ d ih =>
      intro hd
      rw [show lo + 1 + (d + 1) = (lo + 1 + d) + 1 by omega, lnLo, (pa_spec hn hp (show lo + 1 + d < p.length by omega)).2.2.2, Int.toNat_natCast, if_neg, ih (by omega)]
      rw [h.mid _ (by omega) (by omega)]
      decide
  unfold lnLow
  rw [sch_H hn hp h, Int.toNat_natCast]
  have := key (hi - (lo + 1)) (by omega)
  rwa [show lo + 1 + (hi - (lo + 1)) = hi by omega] at this
theorem sch_bs (hn : xs.Nodup) (hp : Pth xs 0 p t) (hb : ∀ i, i < xs.length → xb.getD i false = true) {lo : Nat} {mid : Int} (hm : (lo : Int) + 1 ≤ mid) : ∀ k : Nat, lo + 1 + k < p.length → lnBs xb (ats xs p) mid lo (k + 1) = min ((lo : Int) + 1 + k) mid
  | 0, hk => by
    have hg := (pa_spec hn hp (show lo + 1 < p.length by omega))
    rw [lnBs, lnBs]
    have e : ((lo : Int) + 1 + ((0 : Nat) : Int)).toNat = lo + 1 := by omega
    rw [e, hg.2.2.2, Int.toNat_natCast, if_pos ⟨hb _ hg.1, .inl (by decide)⟩]
    omega
  | k + 1, hk => by
    have ih := sch_bs hn hp hb hm k (by omega)
    have hg := (pa_spec hn hp (show lo + 1 + (k + 1) < p.length by omega))
    rw [lnBs, ih]
    have e : ((lo : Int) + 1 + ((k + 1 : Nat) : Int)).toNat = lo + 1 + (k + 1) := by omega
    rw [e, hg.2.2.2, Int.toNat_natCast]
    by_cases hc : (lo : Int) + 1 + k < mid
    · rw [if_pos ⟨hb _ hg.1, .inr (by unfold apt; omega)⟩]
      omega
    · rw [if_neg]
      · omega
      · rintro ⟨_, h1 | h1⟩
        · omega
        · unfold apt at h1; omega
/-- What Line says of a search. -/
theorem sch_line (hn : xs.Nodup) (hp : Pth xs 0 p t) (hb : ∀ i, i < xs.length → xb.getD i false = true) {lo hi : Nat} (h : Sch xs xb ks bad p m lo hi) :
    lnR xs xb ks m p = if lo + 1 < hi then (p.getD ((lo + hi) / 2) 0, true, 0) else (p.getD hi 0, false, 0) := by
  have hl := h.lt
  have h0 : fitB xs xb ks m = true ∧ ¬ (p.length : Int) < 2 := ⟨h.ok.fit, by omega⟩
  have h1 : (-1 : Int) ∉ ats xs p := ats_ok fun k hk => by rw [(pa_spec hn hp hk).2.2.2]; omega
  have h2 : ¬ (¬ m.getD ((ats xs p).getD 0 0).toNat 0 = 1 ∨ ¬ m.getD ((ats xs p).getD (p.length - 1) 0).toNat 0 = 2) := by
    rw [(pa_spec hn hp (show 0 < p.length by omega)).2.2.2, (pa_spec hn hp (show p.length - 1 < p.length by omega)).2.2.2, Int.toNat_natCast, Int.toNat_natCast, h.m0, h.mN]
    decide
  have hH := sch_H hn hp h
  have hL := sch_L hn hp h
  have hB : lnB xb m (ats xs p) = if lo + 1 < hi then (((lo + hi) / 2 : Nat) : Int) else -1 := by
    unfold lnB lnMid
    rw [hH, hL]
    by_cases hd : lo + 1 < hi
    · rw [if_pos hd]
      have := sch_bs hn hp hb (lo := lo) (mid := ((lo : Int) + hi) / 2) (by omega) (hi - lo - 2) (by omega)
      rw [show ((hi : Int) - lo - 1).toNat = hi - lo - 2 + 1 by omega, this]
      omega
    · rw [if_neg hd, show ((hi : Int) - lo - 1).toNat = 0 by omega]
      rfl
  by_cases hd : lo + 1 < hi
  · rw [if_pos hd] at hB ⊢
    rw [lnR_b h0 h1 h2 (by rw [hB]; omega), hB, Int.toNat_natCast]
  · rw [if_neg hd] at hB ⊢
    rw [lnR_a h0 h1 h2 (by rw [hB]; decide), hH, Int.toNat_natCast]
/-- Different sets have different keys. -/
def Dif (ks : List (List UInt8)) (n : Nat) : Prop := ∀ i j, i < n → j < n → ks.getD i [] = ks.getD j [] → i = j
theorem dif_cls (h : Dif ks xs.length) : Cls ks bad xs.length := fun i j hi hj e => by rw [h i j hi hj e]
theorem tel_at (hd : Dif ks xs.length) (hb : ∀ i, i < xs.length → xb.getD i false = true) (hok : Ok9 xs xb ks bad m) {b : Nat} (hbn : b < xs.length) {mark : Int} {j : Nat} (hj : j < xs.length) : (tlm xb ks m (b : Int) mark xs.length).getD j 0 = if j = b then mark else m.getD j 0 := by
  have hml := (fit_use hok.fit).2.2.2.1
  rw [tlm_get xs.length (by omega), decide_eq_true hj, Bool.true_and, Int.toNat_natCast, hb j hj, Bool.true_and]
  by_cases h : j = b
  · subst h; rw [decide_eq_true rfl, if_pos rfl, if_pos rfl]
  · rw [decide_eq_false (fun e => h (hd j b hj hbn e)), if_neg (by decide), if_neg h]
/-- One question of a search. -/
theorem sch_step (hn : xs.Nodup) (hp : Pth xs 0 p t) (hb : ∀ i, i < xs.length → xb.getD i false = true) (hd : Dif ks xs.length) {lo hi k : Nat} (h : Sch xs xb ks bad p m lo hi) (hk : lo < k ∧ k < hi) :
    telK xs xb ks m (p.getD k 0) (bad.getD (pa xs p k) false) = (ks, tlm xb ks m (pa xs p k : Int) (markOf (bad.getD (pa xs p k) false)) xs.length, 0) ∧
      (if bad.getD (pa xs p k) false then Sch xs xb ks bad p (tlm xb ks m (pa xs p k : Int) (markOf (bad.getD (pa xs p k) false)) xs.length) lo k else Sch xs xb ks bad p (tlm xb ks m (pa xs p k : Int) (markOf (bad.getD (pa xs p k) false)) xs.length) k hi) := by
  have hl := h.lt
  have hs := pa_spec hn hp (show k < p.length by omega)
  obtain ⟨h1, h2, _⟩ := ok_tel (dif_cls hd) h.ok hs.1 (hb _ hs.1)
  rw [hs.2.1] at h1
  refine ⟨h1, ?_⟩
  have hg : ∀ i, i < p.length → (tlm xb ks m (pa xs p k : Int) (markOf (bad.getD (pa xs p k) false)) xs.length).getD (pa xs p i) 0 = if i = k then markOf (bad.getD (pa xs p k) false) else m.getD (pa xs p i) 0 := fun i hi => by
    rw [tel_at hd hb h.ok hs.1 (pa_spec hn hp hi).1]
    by_cases he : i = k
    · subst he; rw [if_pos rfl, if_pos rfl]
    · rw [if_neg (fun e => he (pa_inj hn hp hi (by omega) e)), if_neg he]
  have hN : p.length - 1 ≠ k := by omega
  cases hbk : bad.getD (pa xs p k) false with
  | true =>
    rw [if_pos rfl]
    rw [hbk] at hg h2
    refine ⟨h2, ⟨hk.1, by omega⟩, ?_, ?_, fun i h3 h4 => ?_, fun i h3 => ?_, ?_, ?_⟩
    · rw [hg lo (by omega), if_neg (by omega)]; exact h.mlo
    · rw [hg k (by omega), if_pos rfl]; rfl
    · rw [hg i (by omega), if_neg (by omega)]; exact h.mid i h3 (by omega)
    · rw [hg i (by omega), if_neg (by omega)]; exact h.low i h3
    · rw [hg 0 (by omega), if_neg (by omega)]; exact h.m0
    · rw [hg _ (by omega), if_neg hN]; exact h.mN
  | false =>
    rw [if_neg (by decide)]
    rw [hbk] at hg h2
    refine ⟨h2, ⟨hk.2, hl.2⟩, ?_, ?_, fun i h3 h4 => ?_, fun i h3 => ?_, ?_, ?_⟩
    · rw [hg k (by omega), if_pos rfl]; rfl
    · rw [hg hi (by omega), if_neg (by omega)]; exact h.mhi
    · rw [hg i (by omega), if_neg (by omega)]; exact h.mid i (by omega) h4
    · rw [hg i (by omega), if_neg (by omega)]
      rcases Nat.lt_trichotomy i lo with h5 | h5 | h5
      · exact h.low i h5
      · rw [h5, h.mlo]; decide
      · rw [h.mid i h5 (by omega)]; decide
    · rw [hg 0 (by omega), if_neg (by omega)]; exact h.m0
    · rw [hg _ (by omega), if_neg hN]; exact h.mN
/-- How many questions an interval takes. -/
def gq (d : Nat) : Nat := [0, 0, 1, 2, 2, 3].getD d 0
theorem gq_le {lo hi : Nat} (h : lo + 1 < hi) (h5 : hi - lo ≤ 5) : gq ((lo + hi) / 2 - lo) + 1 ≤ gq (hi - lo) ∧ gq (hi - (lo + hi) / 2) + 1 ≤ gq (hi - lo) := by
  obtain ⟨d, hd⟩ : ∃ d, hi = lo + d := ⟨hi - lo, by omega⟩
  subst hd
  have hc : d = 2 ∨ d = 3 ∨ d = 4 ∨ d = 5 := by omega
  have e1 : lo + d - lo = d := by omega
  have e2 : (lo + (lo + d)) / 2 - lo = d / 2 := by omega
  have e3 : lo + d - (lo + (lo + d)) / 2 = d - d / 2 := by omega
  rw [e1, e2, e3]
  rcases hc with rfl | rfl | rfl | rfl <;> decide
theorem gq_end {n a : Nat} (hn : 1 ≤ n ∧ n ≤ 5) (ha : a ≤ gq n) : a ≤ 3 ∧ 2 ^ a < 2 * n := by
  have hc : n = 1 ∨ n = 2 ∨ n = 3 ∨ n = 4 ∨ n = 5 := by omega
  have h3 : a ≤ 3 := by rcases hc with rfl | rfl | rfl | rfl | rfl <;> exact Nat.le_trans ha (by decide)
  refine ⟨h3, ?_⟩
  have hq : (2 : Nat) ^ a ≤ 2 ^ gq n := Nat.pow_le_pow_right (by decide) ha
  refine Nat.lt_of_le_of_lt hq ?_
  rcases hc with rfl | rfl | rfl | rfl | rfl <;> decide
theorem sch_bad (hn : xs.Nodup) (hp : Pth xs 0 p t) (hb : ∀ i, i < xs.length → xb.getD i false = true) {lo hi : Nat} (h : Sch xs xb ks bad p m lo hi) : bad.getD (pa xs p hi) false = true ∧ bad.getD (pa xs p lo) false = false := by
  have hl := h.lt
  have h1 := pa_spec hn hp hl.2
  have h2 := pa_spec hn hp (show lo < p.length by omega)
  have e1 := h.ok.par _ h1.1
  have e2 := h.ok.par _ h2.1
  rw [h.mhi, tms_get xb bad h1.1, mk_of (hb _ h1.1)] at e1
  rw [h.mlo, tms_get xb bad h2.1, mk_of (hb _ h2.1)] at e2
  unfold markOf at e1 e2
  constructor
  · cases hx : bad.getD (pa xs p hi) false with
    | true => rfl
    | false => rw [hx] at e1; revert e1; decide
  · cases hx : bad.getD (pa xs p lo) false with
    | false => rfl
    | true => rw [hx] at e2; revert e2; decide
/-- The begin of a search. -/
theorem sch_start (hn : xs.Nodup) (hp : Pth xs 0 p t) (hb : ∀ i, i < xs.length → xb.getD i false = true) (hd : Dif ks xs.length) (ho : ordB xs xb = true) (hk : ks.length = xs.length) (h2 : 2 ≤ p.length) (b0 : bad.getD (pa xs p 0) false = false) (b1 : bad.getD (pa xs p (p.length - 1)) false = true) :
    ∃ m1 m2, telK xs xb ks (List.replicate ks.length 0) 0 false = (ks, m1, 0) ∧ telK xs xb ks m1 t true = (ks, m2, 0) ∧ Sch xs xb ks bad p m2 0 (p.length - 1) ∧ Ok9 xs xb ks bad m1 := by
  have s0 := pa_spec hn hp (show 0 < p.length by omega)
  have s1 := pa_spec hn hp (show p.length - 1 < p.length by omega)
  have ok0 := ok_new (bad := bad) ho hk
  obtain ⟨t1, ok1, _⟩ := ok_tel (dif_cls hd) ok0 s0.1 (hb _ s0.1)
  obtain ⟨t2, ok2, _⟩ := ok_tel (dif_cls hd) ok1 s1.1 (hb _ s1.1)
  rw [s0.2.1, hp.head, b0] at t1
  rw [s1.2.1, hp.last, b0, b1] at t2
  rw [b0] at ok1 ok2
  rw [b1] at ok2
  have hg1 : ∀ i, i < p.length → (tlm xb ks (List.replicate ks.length 0) (pa xs p 0 : Int) (markOf false) xs.length).getD (pa xs p i) 0 = if i = 0 then 1 else 0 := fun i hi => by
    rw [tel_at hd hb ok0 s0.1 (pa_spec hn hp hi).1, getD_rep]
    by_cases he : i = 0
    · subst he; rw [if_pos rfl, if_pos rfl]; rfl
    · rw [if_neg (fun e => he (pa_inj hn hp hi (by omega) e)), if_neg he]
  have hg2 : ∀ i, i < p.length → (tlm xb ks (tlm xb ks (List.replicate ks.length 0) (pa xs p 0 : Int) (markOf false) xs.length) (pa xs p (p.length - 1) : Int) (markOf true) xs.length).getD (pa xs p i) 0 = if i = p.length - 1 then 2 else if i = 0 then 1 else 0 := fun i hi => by
    rw [tel_at hd hb ok1 s1.1 (pa_spec hn hp hi).1]
    by_cases he : i = p.length - 1
    · rw [if_pos (by rw [he]), if_pos he]; rfl
    · rw [if_neg (fun e => he (pa_inj hn hp hi (by omega) e)), if_neg he]; exact hg1 i hi
  refine ⟨_, _, t1, t2, ⟨ok2, ⟨by omega, by omega⟩, ?_, ?_, fun i h3 h4 => ?_, fun i h3 => absurd h3 (by omega), ?_, ?_⟩, ok1⟩
  · rw [hg2 0 (by omega), if_neg (by omega), if_pos rfl]
  · rw [hg2 _ (by omega), if_pos rfl]
  · rw [hg2 i (by omega), if_neg (by omega), if_neg (by omega)]
  · rw [hg2 0 (by omega), if_neg (by omega), if_pos rfl]
  · rw [hg2 _ (by omega), if_pos rfl]
end
end Go.Fw.Hu
end

section
/- hunt: what the law of the steps makes. -/
namespace Go.Fw.Hu
open Gu
theorem set_get {α : Type} {T : List α} {i k : Nat} {x d : α} (h : i < T.length) : (T.set i x).getD k d = if k = i then x else T.getD k d := by
  rw [List.getD_eq_getElem?_getD, List.getElem?_set, List.getD_eq_getElem?_getD]
  by_cases hk : k = i
  · subst hk; rw [if_pos rfl, if_pos h, if_pos rfl]; rfl
  · rw [if_neg (fun e => hk e.symm), if_neg hk]
theorem set_tt {T : List Bool} {i : Int} (hi : 0 ≤ i ∧ i.toNat < T.length) (h : ∀ k, k < i.toNat → T.getD k false = true) : ∀ k, k < (i + 1).toNat → (T.set i.toNat true).getD k false = true := fun k hk => by
  rw [set_get hi.2]
  split
  · rfl
  · exact h k (by omega)
theorem set_dg {K : List (List UInt8)} {i : Int} (hi : 0 ≤ i ∧ i.toNat < K.length) (h : ∀ k, k < i.toNat → K.getD k [] = dgI k) : ∀ k, k < (i + 1).toNat → (K.set i.toNat (dgI i)).getD k [] = dgI k := fun k hk => by
  rw [set_get hi.2]
  split
  · rename_i e; rw [e, show ((i.toNat : Nat) : Int) = i by omega]
  · exact h k (by omega)
theorem set_16 {K : List (List UInt8)} {i : Nat} {x : List UInt8} (h : ∀ x ∈ K, x.length = 16) (hx : x.length = 16) : ∀ y ∈ K.set i x, y.length = 16 := fun y hy => by
  rcases List.mem_or_eq_of_mem_set hy with h1 | rfl
  · exact h y h1
  · exact hx
theorem dif_dg {ks : List (List UInt8)} {n : Nat} (hn : n ≤ 32) (h : ∀ k, k < n → ks.getD k [] = dgI k) : Dif ks n := fun i j hi hj e => by
  rw [h i hi, h j hj] at e
  have key : ∀ i j : Fin 32, dgI (i.val : Int) = dgI (j.val : Int) → i = j := by decide +kernel
  have := key ⟨i, by omega⟩ ⟨j, by omega⟩ e
  simpa using this
section
variable {xs : List Int} {xb : List Bool} {ks : List (List UInt8)} {bad bd : List Bool} {m p : List Int} {t : Int}
theorem bb_ok (hn : xs.Nodup) (hp : Pth xs 0 p t) (h2 : 2 ≤ p.length) (hl : bd.length = xs.length) : ((bd.set (ixF (fun y => decide ((0 : Int) = y)) xs).toNat false).set (ixF (fun y => decide (t = y)) xs).toNat true).getD (pa xs p 0) false = false ∧ ((bd.set (ixF (fun y => decide ((0 : Int) = y)) xs).toNat false).set (ixF (fun y => decide (t = y)) xs).toNat true).getD (pa xs p (p.length - 1)) false = true := by
  have s0 := pa_spec hn hp (show 0 < p.length by omega)
  have s1 := pa_spec hn hp (show p.length - 1 < p.length by omega)
  have e0 : ixF (fun y => decide ((0 : Int) = y)) xs = (pa xs p 0 : Int) := by have := s0.2.2.1; rw [hp.head] at this; exact this
  have e1 : ixF (fun y => decide (t = y)) xs = (pa xs p (p.length - 1) : Int) := by have := s1.2.2.1; rw [hp.last] at this; exact this
  have hne : pa xs p 0 ≠ pa xs p (p.length - 1) := fun e => by have := pa_inj hn hp (by omega) (by omega) e; omega
  rw [e0, e1, Int.toNat_natCast, Int.toNat_natCast]
  constructor
  · rw [set_get (by rw [List.length_set]; omega), if_neg hne, set_get (by omega), if_pos rfl]
  · rw [set_get (by rw [List.length_set]; omega), if_pos rfl]
theorem sch_next (hn : xs.Nodup) (hp : Pth xs 0 p t) (hb : ∀ i, i < xs.length → xb.getD i false = true) (hd : Dif ks xs.length) (h6 : p.length ≤ 6) {lo hi : Nat} (h : Sch xs xb ks bad p m lo hi) (hlt : lo + 1 < hi) :
    ∃ q2 l2 h2, telK xs xb ks m (p.getD ((lo + hi) / 2) 0) (bad.getD (pa xs p ((lo + hi) / 2)) false) = (ks, q2, 0) ∧ Sch xs xb ks bad p q2 l2 h2 ∧ h2 - l2 < hi - lo ∧ gq (h2 - l2) + 1 ≤ gq (hi - lo) := by
  have hl := h.lt
  obtain ⟨h1, h2⟩ := sch_step hn hp hb hd h (k := (lo + hi) / 2) ⟨by omega, by omega⟩
  obtain ⟨g1, g2⟩ := gq_le hlt (by omega)
  cases hx : bad.getD (pa xs p ((lo + hi) / 2)) false with
  | true =>
    rw [hx] at h1
    rw [hx, if_pos rfl] at h2
    exact ⟨_, _, _, h1, h2, by omega, g1⟩
  | false =>
    rw [hx] at h1
    rw [hx, if_neg (by decide)] at h2
    exact ⟨_, _, _, h1, h2, by omega, g2⟩
end
end Go.Fw.Hu
end
