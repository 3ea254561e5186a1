/- A text of a proof over this seat: walks over the program's functions and the plain laws that they need. -/
import Derived.Test.YtngcjojijaknnaaGreatDoorShW
import Derived.Test.YtngcjojijaknnaaGreatDoorFwD
import Derived.Lib.Bytealg
import Derived.Test.YtngcjojijaknnaaGreatDoorGuA
set_option linter.all false
section
/- Keys in their order; rows of leaves, in plain words. -/
namespace Go.Fw
namespace Mk
/-- A key, a value. -/
abbrev Lf := List UInt8 × List UInt8
def lt (a b : List UInt8) : Bool := Op.bytesLess a b
end Mk
end Go.Fw
end

section
/- Trees of rows: digests, sides, and what is made of them. -/
namespace Go.Fw
namespace Mk
/-- The greatest power of two that is less than n. -/
def half (n : Nat) : Nat := 2 ^ Nat.log2 (n - 1)
theorem half_pos (n : Nat) : 1 ≤ half n := Nat.one_le_two_pow
theorem half_lt {n : Nat} (h : 2 ≤ n) : half n < n := by
  have := Nat.log2_self_le (n := n - 1) (by omega)
  unfold half; omega
theorem half_eq {n j : Nat} (h1 : 2 ^ j < n) (h2 : ¬ 2 * 2 ^ j < n) : half n = 2 ^ j := by
  unfold half
  congr 1
  refine (Nat.log2_eq_iff (by omega)).2 ⟨by omega, ?_⟩
  rw [Nat.pow_succ]; omega
abbrev Dg := List UInt8
def leafD (x : Lf) : Dg := Sha.ofD 3 [x.1, x.2]
def nodeD (a b : Dg) : Dg := Sha.ofD 4 [a, b]
def rootD (n : Nat) (d : Dg) : Dg := if n = 0 then Sha.ofD 4 [Wi.int 0] else Sha.ofD 4 [Wi.int n, d]
theorem leafD_16 (x : Lf) : (leafD x).length = 16 := Sha.ofD_len _ _
theorem nodeD_16 (a b : Dg) : (nodeD a b).length = 16 := Sha.ofD_len _ _
theorem rootD_16 (n : Nat) (d : Dg) : (rootD n d).length = 16 := by unfold rootD; split <;> exact Sha.ofD_len _ _
/-- The digest of a row, with fuel. -/
def rw_ : Nat → List Lf → Dg
  | 0, _ => []
  | f + 1, ls => if ls.length ≤ 1 then leafD (ls.getD 0 kv0) else nodeD (rw_ f (ls.take (half ls.length))) (rw_ f (ls.drop (half ls.length)))
def rowD (ls : List Lf) : Dg := rw_ ls.length ls
theorem rw_fuel : ∀ (f g : Nat) (ls : List Lf), 1 ≤ ls.length → ls.length ≤ f → ls.length ≤ g → rw_ f ls = rw_ g ls
  | 0, _, ls, h, h1, _ => absurd h (by omega)
  | _ + 1, 0, ls, h, _, h2 => absurd h (by omega)
  | f + 1, g + 1, ls, h, h1, h2 => by
    rw [rw_, rw_]
    split
    · rfl
    · have hl := half_lt (n := ls.length) (by omega)
      have hp := half_pos ls.length
      rw [rw_fuel f g (ls.take _) (by rw [List.length_take]; omega) (by rw [List.length_take]; omega) (by rw [List.length_take]; omega), rw_fuel f g (ls.drop _) (by rw [List.length_drop]; omega) (by rw [List.length_drop]; omega) (by rw [List.length_drop]; omega)]
theorem rowD_1 {ls : List Lf} (h : ls.length = 1) : rowD ls = leafD (ls.getD 0 kv0) := by
  unfold rowD; rw [h, rw_, if_pos (by omega)]
theorem rowD_s {ls : List Lf} (h : 2 ≤ ls.length) : rowD ls = nodeD (rowD (ls.take (half ls.length))) (rowD (ls.drop (half ls.length))) := by
  have hl := half_lt h
  have hp := half_pos ls.length
  have e : rw_ ls.length ls = rw_ (ls.length - 1 + 1) ls := by rw [show ls.length - 1 + 1 = ls.length by omega]
  unfold rowD
  rw [e, rw_, if_neg (by omega), rw_fuel (ls.length - 1) (ls.take (half ls.length)).length _ (by rw [List.length_take]; omega) (by rw [List.length_take]; omega) (Nat.le_refl _), rw_fuel (ls.length - 1) (ls.drop (half ls.length)).length _ (by rw [List.length_drop]; omega) (by rw [List.length_drop]; omega) (Nat.le_refl _)]
theorem rowD_16 {ls : List Lf} (h : 1 ≤ ls.length) : (rowD ls).length = 16 := by
  by_cases h1 : ls.length = 1
  · rw [rowD_1 h1]; exact leafD_16 _
  · rw [rowD_s (by omega)]; exact nodeD_16 _ _
/-- The sides of a row that begins at a, with fuel. -/
def sd_ (first en : Nat) : Nat → List Lf → Nat → List Dg
  | 0, _, _ => []
  | f + 1, ls, a => if a + ls.length ≤ first ∨ en ≤ a then [rowD ls] else if ls.length ≤ 1 then [] else sd_ first en f (ls.take (half ls.length)) a ++ sd_ first en f (ls.drop (half ls.length)) (a + half ls.length)
def sidesD (first en : Nat) (ls : List Lf) (a : Nat) : List Dg := sd_ first en ls.length ls a
/-- What a proof makes of a row of n that begins at a: its digest, and the sides that are left; none: they are too few. -/
def cn_ (first : Nat) (lv : List Lf) : Nat → Nat → Nat → List Dg → Option (Dg × List Dg)
  | 0, _, _, _ => none
  | f + 1, n, a, sd =>
    if a + n ≤ first ∨ first + lv.length ≤ a then
      match sd with
      | [] => none
      | d :: t => some (d, t)
    else if n ≤ 1 then some (leafD (lv.getD (a - first) kv0), sd)
    else match cn_ first lv f (half n) a sd with
      | none => none
      | some (x, s1) => match cn_ first lv f (n - half n) (a + half n) s1 with
        | none => none
        | some (y, s2) => some (nodeD x y, s2)
def conD (first : Nat) (lv : List Lf) (n a : Nat) (sd : List Dg) : Option (Dg × List Dg) := cn_ first lv n n a sd
section
variable {first : Nat} {lv : List Lf} {n a : Nat} {sd : List Dg}
end
end Mk
end Go.Fw
end

section
/- Lists of leaves that are in order. -/
namespace Go.Fw
namespace Mk
def bigB (x : Lf) : Bool := decide (65536 < x.1.length) || decide (65536 < x.2.length)
/-- The first n keys rise. -/
def ascN (ls : List Lf) : Nat → Bool
  | 0 => true
  | n + 1 => ascN ls n && (decide (n = 0) || lt (ls.getD (n - 1) kv0).1 (ls.getD n kv0).1)
/-- What Valid says. -/
def vE (ls : List Lf) : Int := if 4096 < ls.length ∨ ls.any bigB = true then 4 else if ascN ls ls.length = true then 0 else 1
def Asc (ls : List Lf) : Prop := ∀ i, i + 1 < ls.length → lt (ls.getD i kv0).1 (ls.getD (i + 1) kv0).1 = true
theorem asc_of {ls : List Lf} : ∀ n, ascN ls n = true → ∀ i, i + 1 < n → lt (ls.getD i kv0).1 (ls.getD (i + 1) kv0).1 = true
  | 0, _, i, hi => absurd hi (by omega)
  | n + 1, h, i, hi => by
    rw [ascN, Bool.and_eq_true] at h
    by_cases hin : i + 1 = n
    · have h2 := h.2
      rw [show decide (n = 0) = false from decide_eq_false (by omega), Bool.false_or, show n - 1 = i by omega, ← hin] at h2
      exact h2
    · exact asc_of n h.1 i (by omega)
theorem vE_asc {ls : List Lf} (h : vE ls = 0) : Asc ls ∧ ls.length ≤ 4096 ∧ ∀ x ∈ ls, x.1.length ≤ 65536 ∧ x.2.length ≤ 65536 := by
  unfold vE at h
  split at h
  · cases h
  · rename_i h1
    split at h
    · rename_i h2
      refine ⟨fun i hi => asc_of _ h2 i hi, by omega, fun x hx => ?_⟩
      have h3 : ls.any bigB = false := by
        cases h4 : ls.any bigB with
        | true => exact absurd (.inr h4) h1
        | false => rfl
      have := List.any_eq_false.1 h3 x hx
      simp only [bigB, Bool.or_eq_true, decide_eq_true_eq, not_or] at this
      omega
    · cases h
/-- How many keys are less. -/
def frN (ls : List Lf) (k : List UInt8) : Nat → Nat
  | 0 => 0
  | n + 1 => frN ls k n + (if lt (ls.getD n kv0).1 k = true then 1 else 0)
def frm (ls : List Lf) (k : List UInt8) : Nat := frN ls k ls.length
/-- Where a key stands; none: it is not there. -/
def hasF (ls : List Lf) (k : List UInt8) : Option Nat := if frm ls k < ls.length ∧ (ls.getD (frm ls k) kv0).1 = k then some (frm ls k) else none
end Mk
end Go.Fw
end

section
/- What the small functions over leaves compute. -/
namespace Go.Fw
namespace Mk
def ixF (p : Lf → Bool) (xs : List Lf) : Int := match xs.findIdx? p with
  | some k => k
  | none => -1
theorem ixF_at {p : Lf → Bool} {xs : List Lf} {i : Nat} (hi : i < xs.length) (hp : p (xs.getD i kv0) = true) (hn : ∀ j, j < i → p (xs.getD j kv0) = false) : ixF p xs = i := by
  have : xs.findIdx? p = some i := by
    rw [List.findIdx?_eq_some_iff_getElem]
    refine ⟨hi, by simpa [hi] using hp, fun j hj => ?_⟩
    have := hn j hj
    have hj' : j < xs.length := by omega
    simpa [hj'] using this
  unfold ixF
  rw [this]
theorem ixF_no {p : Lf → Bool} {xs : List Lf} (hn : ∀ j, j < xs.length → p (xs.getD j kv0) = false) : ixF p xs = -1 := by
  have : xs.findIdx? p = none := by
    rw [List.findIdx?_eq_none_iff]
    intro x hx
    obtain ⟨j, hj, rfl⟩ := List.mem_iff_getElem.1 hx
    have := hn j hj
    simpa [hj] using this
  unfold ixF
  rw [this]
theorem ixF_any (p : Lf → Bool) (xs : List Lf) : decide (0 ≤ ixF p xs) = xs.any p := by
  unfold ixF
  cases h : xs.findIdx? p with
  | none =>
    have h := List.findIdx?_eq_none_iff.1 h
    have : xs.any p = false := List.any_eq_false.2 fun x hx => by simp [h x hx]
    rw [this]; rfl
  | some k =>
    obtain ⟨h1, h2, _⟩ := List.findIdx?_eq_some_iff_getElem.1 h
    have : xs.any p = true := List.any_eq_true.2 ⟨_, List.getElem_mem h1, h2⟩
    rw [this]
    exact decide_eq_true (Int.natCast_nonneg k)
theorem none_step {p : Lf → Bool} {xs : List Lf} {i : Int} (hi : 0 ≤ i) (hp : p (xs.getD i.toNat kv0) = false) (hn : ∀ j, j < i.toNat → p (xs.getD j kv0) = false) : ∀ j, j < (i + 1).toNat → p (xs.getD j kv0) = false := fun j hj => by
  rcases Nat.lt_or_ge j i.toNat with h | h
  · exact hn j h
  · obtain rfl : j = i.toNat := by omega
    exact hp
theorem big_eq (x : Lf) : (decide ((65536 : Int) < (x.1.length : Int)) || decide ((65536 : Int) < (x.2.length : Int))) = bigB x := by
  unfold bigB
  congr 1 <;> exact decide_eq_decide.2 (by omega)
/-- The search by halves finds the place. -/
theorem pow_half {n : Nat} {m : Int} {j : Nat} (hm : m = ((2 ^ j : Nat) : Int)) (h1 : j = 0 ∨ 2 ^ j < n) (h2 : ¬ 2 * m < (n : Int)) (hn : 2 ≤ n) : m = (half n : Int) := by
  have h3 : ¬ 2 * 2 ^ j < n := by omega
  have h4 : 2 ^ j < n := by
    rcases h1 with rfl | h1
    · omega
    · exact h1
  rw [half_eq h4 h3]; exact hm
/-- A part of a list. -/
def sub (ls : List Lf) (a n : Nat) : List Lf := (ls.drop a).take n
theorem sub_len {ls : List Lf} {a n : Nat} (h : a + n ≤ ls.length) : (sub ls a n).length = n := by
  unfold sub; rw [List.length_take, List.length_drop]; omega
theorem sub_get {ls : List Lf} {a n i : Nat} (h : i < n) : (sub ls a n).getD i kv0 = ls.getD (a + i) kv0 := by
  unfold sub
  rw [List.getD_eq_getElem?_getD, List.getElem?_take, if_pos h, List.getElem?_drop, ← List.getD_eq_getElem?_getD]
theorem sub_take {ls : List Lf} {a n k : Nat} (h : k ≤ n) : (sub ls a n).take k = sub ls a k := by
  unfold sub; rw [List.take_take, Nat.min_eq_left h]
theorem sub_drop {ls : List Lf} {a n k : Nat} : (sub ls a n).drop k = sub ls (a + k) (n - k) := by
  unfold sub; rw [List.drop_take, List.drop_drop]
theorem sub_all (ls : List Lf) : sub ls 0 ls.length = ls := by unfold sub; rw [List.drop_zero, List.take_length]
theorem rowD_sub1 {ls : List Lf} {a : Nat} (h : a + 1 ≤ ls.length) : rowD (sub ls a 1) = leafD (ls.getD a kv0) := by
  rw [rowD_1 (sub_len h), sub_get (by omega), Nat.add_zero]
theorem rowD_sub {ls : List Lf} {a n : Nat} (h : a + n ≤ ls.length) (hn : 2 ≤ n) : rowD (sub ls a n) = nodeD (rowD (sub ls a (half n))) (rowD (sub ls (a + half n) (n - half n))) := by
  have hl := half_lt hn
  rw [rowD_s (by rw [sub_len h]; exact hn), sub_len h, sub_take (by omega), sub_drop]
end Mk
end Go.Fw
namespace Go.Fw
namespace Mk
theorem mid_eq {s : Int} (h0 : 0 ≤ s) (h1 : s < 4611686018427387904) : sgn (UInt64.ofNat ((ofq s).toNat / 2 ^ (min (1 : Int).toNat 64))) = s / 2 := by
  have e1 : (ofq s).toNat = s.toNat := by
    obtain ⟨n, rfl⟩ := Int.eq_ofNat_of_zero_le h0
    simp [ofq]
    omega
  rw [e1, show (2 : Nat) ^ (min (1 : Int).toNat 64) = 2 from rfl]
  have e2 : (UInt64.ofNat (s.toNat / 2)).toNat = s.toNat / 2 := by simp; omega
  unfold sgn
  rw [e2]
  rw [if_pos (by omega)]
  omega
theorem asc_next {ls : List Lf} {i : Int} (h0 : 0 ≤ i) (h : ascN ls i.toNat = true) (hn : ¬ (0 < i ∧ (!lt (ls.getD (i - 1).toNat kv0).1 (ls.getD i.toNat kv0).1) = true)) : ascN ls (i + 1).toNat = true := by
  rw [show (i + 1).toNat = i.toNat + 1 by omega, ascN, h, Bool.true_and]
  by_cases hi : i = 0
  · subst hi; rfl
  · rw [show (i - 1).toNat = i.toNat - 1 by omega] at hn
    have : lt (ls.getD (i.toNat - 1) kv0).1 (ls.getD i.toNat kv0).1 = true := by
      cases h3 : lt (ls.getD (i.toNat - 1) kv0).1 (ls.getD i.toNat kv0).1 with
      | true => rfl
      | false => exact absurd ⟨by omega, by rw [h3]; rfl⟩ hn
    rw [this]; simp
theorem asc_stop {ls : List Lf} {i : Int} (h0 : 0 < i) (hl : i < ls.length) (h : lt (ls.getD (i - 1).toNat kv0).1 (ls.getD i.toNat kv0).1 = false) : ascN ls ls.length = false := by
  cases h2 : ascN ls ls.length with
  | false => rfl
  | true =>
    have := asc_of _ h2 (i - 1).toNat (by omega)
    rw [show (i - 1).toNat + 1 = i.toNat by omega, h] at this
    cases this
theorem vE_4 {ls : List Lf} (h : 4096 < ls.length ∨ ls.any bigB = true) : vE ls = 4 := by unfold vE; rw [if_pos h]
theorem vE_1 {ls : List Lf} (h : ¬ (4096 < ls.length ∨ ls.any bigB = true)) (h2 : ascN ls ls.length = false) : vE ls = 1 := by unfold vE; rw [if_neg h, if_neg (by rw [h2]; simp)]
theorem vE_0 {ls : List Lf} (h : ¬ (4096 < ls.length ∨ ls.any bigB = true)) (h2 : ascN ls ls.length = true) : vE ls = 0 := by unfold vE; rw [if_neg h, if_pos h2]
end Mk
end Go.Fw
namespace Go.Fw
namespace Mk
/-- Whether a key is there. -/
def fnd (ls : List Lf) (k : List UInt8) : Bool := decide (frm ls k < ls.length) && decide ((ls.getD (frm ls k) kv0).1 = k)
end Mk
end Go.Fw
namespace Go.Fw
namespace Mk
theorem getD_in {xs : List Lf} {k : Nat} (h : k < xs.length) : xs.getD k kv0 ∈ xs := by rw [List.getD_eq_getElem?_getD, List.getElem?_eq_getElem h]; exact List.getElem_mem h
/-- What Root says. -/
def rootE (ls : List Lf) : Dg × Int := if vE ls = 0 then (rootD ls.length (rowD ls), 0) else (List.replicate 16 0, vE ls)
theorem rootE_e {ls : List Lf} (h : vE ls ≠ 0) : rootE ls = (List.replicate 16 0, vE ls) := if_neg h
theorem rootE_n {ls : List Lf} (h : vE ls = 0) : rootE ls = (rootD ls.length (rowD ls), 0) := if_pos h
theorem rootE_0 {ls : List Lf} (h : vE ls = 0) (h0 : ls.length = 0) : rootE ls = (rootD 0 (List.replicate 16 0), 0) := by rw [rootE_n h, h0]; unfold rootD; rw [if_pos rfl, if_pos rfl]
end Mk
end Go.Fw
namespace Go.Fw
namespace Mk
end Mk
end Go.Fw
namespace Go.Fw
namespace Mk
end Mk
end Go.Fw
namespace Go.Fw
namespace Mk
end Mk
end Go.Fw
end
