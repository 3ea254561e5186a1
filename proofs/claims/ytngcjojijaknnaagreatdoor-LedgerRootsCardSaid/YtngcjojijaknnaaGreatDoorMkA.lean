/- A text of a proof over this seat: walks over the program's functions and the plain laws that they need. -/
import Derived.Test.YtngcjojijaknnaaGreatDoorFwD
import Derived.Test.YtngcjojijaknnaaGreatDoorGuA
import Derived.Test.YtngcjojijaknnaaGreatDoorShW
import Derived.Lib.Bytealg
set_option linter.all false
section
/- Keys in their order; rows of leaves, in plain words. -/
namespace Go.Fw
namespace Mk
abbrev Lf := List UInt8 × List UInt8
def lt (a b : List UInt8) : Bool := Op.bytesLess a b
end Mk
end Go.Fw
end

section
/- Trees of rows: digests, sides, and what is made of them. -/
namespace Go.Fw
namespace Mk
def half (n : Nat) : Nat := 2 ^ Nat.log2 (n - 1)
theorem half_pos (n : Nat) : 1 ≤ half n := Nat.one_le_two_pow
theorem half_lt {n : Nat} (h : 2 ≤ n) : half n < n := by
 have := Nat.log2_self_le (n := n - 1) (by omega)
 unfold half; omega
theorem half_eq {n j : Nat} (h1 : 2 ^ j < n) (h2 : ¬ 2 * 2 ^ j < n) : half n = 2 ^ j := by
 unfold half
 congr 1
 refine (Nat.log2_eq_iff (by omega)).2 ⟨by omega, ?_⟩
 rw [Nat.pow_succ]; omega
abbrev Dg := List UInt8
def leafD (x : Lf) : Dg := Sha.ofD 3 [x.1, x.2]
def nodeD (a b : Dg) : Dg := Sha.ofD 4 [a, b]
def rootD (n : Nat) (d : Dg) : Dg := if n = 0 then Sha.ofD 4 [Wi.int 0] else Sha.ofD 4 [Wi.int n, d]
theorem leafD_16 (x : Lf) : (leafD x).length = 16 := Sha.ofD_len _ _
theorem nodeD_16 (a b : Dg) : (nodeD a b).length = 16 := Sha.ofD_len _ _
theorem rootD_16 (n : Nat) (d : Dg) : (rootD n d).length = 16 := by unfold rootD; split <;> exact Sha.ofD_len _ _
def rw_ : Nat → List Lf → Dg
 | 0, _ => []
 | f + 1, ls => if ls.length ≤ 1 then leafD (ls.getD 0 kv0) else nodeD (rw_ f (ls.take (half ls.length))) (rw_ f (ls.drop (half ls.length)))
def rowD (ls : List Lf) : Dg := rw_ ls.length ls
theorem rw_fuel : ∀ (f g : Nat) (ls : List Lf), 1 ≤ ls.length → ls.length ≤ f → ls.length ≤ g → rw_ f ls = rw_ g ls
 | 0, _, ls, h, h1, _ => absurd h (by omega)
 | _ + 1, 0, ls, h, _, h2 => absurd h (by omega)
 | f + 1, g + 1, ls, h, h1, h2 => by
  rw [rw_, rw_]
  split
  ·rfl
  ·have hl := half_lt (n := ls.length) (by omega)
   have hp := half_pos ls.length
   rw [rw_fuel f g (ls.take _) (by rw [List.length_take]; omega) (by rw [List.length_take]; omega) (by rw [List.length_take]; omega), rw_fuel f g (ls.drop _) (by rw [List.length_drop]; omega) (by rw [List.length_drop]; omega) (by rw [List.length_drop]; omega)]
theorem rowD_1 {ls : List Lf} (h : ls.length = 1) : rowD ls = leafD (ls.getD 0 kv0) := by
 unfold rowD; rw [h, rw_, if_pos (by omega)]
theorem rowD_s {ls : List Lf} (h : 2 ≤ ls.length) : rowD ls = nodeD (rowD (ls.take (half ls.length))) (rowD (ls.drop (half ls.length))) := by
 have hl := half_lt h
 have hp := half_pos ls.length
 have e : rw_ ls.length ls = rw_ (ls.length - 1 + 1) ls := by rw [show ls.length - 1 + 1 = ls.length by omega]
 unfold rowD
 rw [e, rw_, if_neg (by omega), rw_fuel (ls.length - 1) (ls.take (half ls.length)).length _ (by rw [List.length_take]; omega) (by rw [List.length_take]; omega) (Nat.le_refl _), rw_fuel (ls.length - 1) (ls.drop (half ls.length)).length _ (by rw [List.length_drop]; omega) (by rw [List.length_drop]; omega) (Nat.le_refl _)]
theorem rowD_16 {ls : List Lf} (h : 1 ≤ ls.length) : (rowD ls).length = 16 := by
 by_cases h1 : ls.length = 1
 ·rw [rowD_1 h1]; exact leafD_16 _
 ·rw [rowD_s (by omega)]; exact nodeD_16 _ _
def sd_ (first en : Nat) : Nat → List Lf → Nat → List Dg
 | 0, _, _ => []
 | f + 1, ls, a => if a + ls.length ≤ first ∨ en ≤ a then [rowD ls] else if ls.length ≤ 1 then [] else sd_ first en f (ls.take (half ls.length)) a ++ sd_ first en f (ls.drop (half ls.length)) (a + half ls.length)
def sidesD (first en : Nat) (ls : List Lf) (a : Nat) : List Dg := sd_ first en ls.length ls a
theorem sd_fuel (first en : Nat) : ∀ (f g : Nat) (ls : List Lf) (a : Nat), 1 ≤ ls.length → ls.length ≤ f → ls.length ≤ g → sd_ first en f ls a = sd_ first en g ls a
 | 0, _, ls, a, h, h1, _ => absurd h (by omega)
 | _ + 1, 0, ls, a, h, _, h2 => absurd h (by omega)
 | f + 1, g + 1, ls, a, h, h1, h2 => by
  rw [sd_, sd_]
  split
  ·rfl
  ·split
   ·rfl
   ·have hl := half_lt (n := ls.length) (by omega)
    have hp := half_pos ls.length
    rw [sd_fuel first en f g (ls.take _) _ (by rw [List.length_take]; omega) (by rw [List.length_take]; omega) (by rw [List.length_take]; omega), sd_fuel first en f g (ls.drop _) _ (by rw [List.length_drop]; omega) (by rw [List.length_drop]; omega) (by rw [List.length_drop]; omega)]
theorem sides_out {first en : Nat} {ls : List Lf} {a : Nat} (h : 1 ≤ ls.length) (ho : a + ls.length ≤ first ∨ en ≤ a) : sidesD first en ls a = [rowD ls] := by
 unfold sidesD
 rw [show sd_ first en ls.length ls a = sd_ first en (ls.length - 1 + 1) ls a by rw [show ls.length - 1 + 1 = ls.length by omega], sd_, if_pos ho]
theorem sides_1 {first en : Nat} {ls : List Lf} {a : Nat} (h : ls.length = 1) (ho : ¬ (a + ls.length ≤ first ∨ en ≤ a)) : sidesD first en ls a = [] := by
 unfold sidesD
 rw [show sd_ first en ls.length ls a = sd_ first en (0 + 1) ls a by rw [h], sd_, if_neg ho, if_pos (by omega)]
theorem sides_s {first en : Nat} {ls : List Lf} {a : Nat} (h : 2 ≤ ls.length) (ho : ¬ (a + ls.length ≤ first ∨ en ≤ a)) : sidesD first en ls a = sidesD first en (ls.take (half ls.length)) a ++ sidesD first en (ls.drop (half ls.length)) (a + half ls.length) := by
 have hl := half_lt h
 have hp := half_pos ls.length
 unfold sidesD
 rw [show sd_ first en ls.length ls a = sd_ first en (ls.length - 1 + 1) ls a by rw [show ls.length - 1 + 1 = ls.length by omega], sd_, if_neg ho, if_neg (by omega), sd_fuel first en (ls.length - 1) (ls.take (half ls.length)).length _ _ (by rw [List.length_take]; omega) (by rw [List.length_take]; omega) (Nat.le_refl _), sd_fuel first en (ls.length - 1) (ls.drop (half ls.length)).length _ _ (by rw [List.length_drop]; omega) (by rw [List.length_drop]; omega) (Nat.le_refl _)]
def cn_ (first : Nat) (lv : List Lf) : Nat → Nat → Nat → List Dg → Option (Dg × List Dg)
 | 0, _, _, _ => none
 | f + 1, n, a, sd =>
  if a + n ≤ first ∨ first + lv.length ≤ a then
   match sd with
   | [] => none
   | d :: t => some (d, t)
  else if n ≤ 1 then some (leafD (lv.getD (a - first) kv0), sd)
  else match cn_ first lv f (half n) a sd with
   | none => none
   | some (x, s1) => match cn_ first lv f (n - half n) (a + half n) s1 with
    | none => none
    | some (y, s2) => some (nodeD x y, s2)
theorem cn_s (first : Nat) (lv : List Lf) (f n a : Nat) (sd : List Dg) : cn_ first lv (f + 1) n a sd =
  (if a + n ≤ first ∨ first + lv.length ≤ a then
   match sd with
   | [] => none
   | d :: t => some (d, t)
  else if n ≤ 1 then some (leafD (lv.getD (a - first) kv0), sd)
  else match cn_ first lv f (half n) a sd with
   | none => none
   | some (x, s1) => match cn_ first lv f (n - half n) (a + half n) s1 with
    | none => none
    | some (y, s2) => some (nodeD x y, s2)) := rfl
def conD (first : Nat) (lv : List Lf) (n a : Nat) (sd : List Dg) : Option (Dg × List Dg) := cn_ first lv n n a sd
theorem cn_fuel (first : Nat) (lv : List Lf) : ∀ (f g n a : Nat) (sd : List Dg), 1 ≤ n → n ≤ f → n ≤ g → cn_ first lv f n a sd = cn_ first lv g n a sd
 | 0, _, n, a, sd, h, h1, _ => absurd h (by omega)
 | _ + 1, 0, n, a, sd, h, _, h2 => absurd h (by omega)
 | f + 1, g + 1, n, a, sd, h, h1, h2 => by
  rw [cn_s, cn_s]
  split
  ·rfl
  ·split
   ·rfl
   ·have hl := half_lt (n := n) (by omega)
    have hp := half_pos n
    rw [cn_fuel first lv f g (half n) a sd hp (by omega) (by omega)]
    cases cn_ first lv g (half n) a sd with
    | none => rfl
    | some p =>
     obtain ⟨x, s1⟩ := p
     simp only
     rw [cn_fuel first lv f g (n - half n) (a + half n) s1 (by omega) (by omega) (by omega)]
section
variable {first : Nat} {lv : List Lf} {n a : Nat} {sd : List Dg}
theorem con_out (h : 1 ≤ n) (ho : a + n ≤ first ∨ first + lv.length ≤ a) : conD first lv n a sd = match sd with | [] => none | d :: t => some (d, t) := by
 unfold conD
 rw [show cn_ first lv n n a sd = cn_ first lv (n - 1 + 1) n a sd by rw [show n - 1 + 1 = n by omega], cn_s, if_pos ho]
theorem con_1 (h : n = 1) (ho : ¬ (a + n ≤ first ∨ first + lv.length ≤ a)) : conD first lv n a sd = some (leafD (lv.getD (a - first) kv0), sd) := by
 unfold conD
 rw [show cn_ first lv n n a sd = cn_ first lv (0 + 1) n a sd by rw [h], cn_s, if_neg ho, if_pos (by omega)]
theorem con_s (h : 2 ≤ n) (ho : ¬ (a + n ≤ first ∨ first + lv.length ≤ a)) : conD first lv n a sd = match conD first lv (half n) a sd with
  | none => none
  | some (x, s1) => match conD first lv (n - half n) (a + half n) s1 with
   | none => none
   | some (y, s2) => some (nodeD x y, s2) := by
 have hl := half_lt h
 have hp := half_pos n
 unfold conD
 rw [show cn_ first lv n n a sd = cn_ first lv (n - 1 + 1) n a sd by rw [show n - 1 + 1 = n by omega], cn_s, if_neg ho, if_neg (by omega), cn_fuel first lv (n - 1) (half n) _ _ _ hp (by omega) (Nat.le_refl _)]
 cases cn_ first lv (half n) (half n) a sd with
 | none => rfl
 | some p =>
  obtain ⟨x, s1⟩ := p
  simp only
  rw [cn_fuel first lv (n - 1) (n - half n) _ _ _ (by omega) (by omega) (Nat.le_refl _)]
end
theorem con_sides (all : List Lf) (first en : Nat) (hfe : first ≤ en) (hen : en ≤ all.length) : ∀ (k : Nat) (ls : List Lf) (a : Nat), ls.length = k → 1 ≤ ls.length → ls = (all.drop a).take ls.length → a + ls.length ≤ all.length → ∀ t, conD first ((all.take en).drop first) ls.length a (sidesD first en ls a ++ t) = some (rowD ls, t) := by
 intro k
 have hll : ((all.take en).drop first).length = en - first := by rw [List.length_drop, List.length_take]; omega
 induction k using Nat.strongRecOn with
 | ind k ih =>
  intro ls a hk h1 hls ha t
  by_cases ho : a + ls.length ≤ first ∨ en ≤ a
  ·rw [con_out h1 (by rw [hll]; omega), sides_out h1 ho]; rfl
  ·have ho' : ¬ (a + ls.length ≤ first ∨ first + ((all.take en).drop first).length ≤ a) := by rw [hll]; omega
   by_cases h2 : ls.length = 1
   ·rw [con_1 h2 ho', sides_1 h2 ho, rowD_1 h2]
    congr 3
    have e1 : ((all.take en).drop first).getD (a - first) kv0 = all.getD a kv0 := by
     rw [List.getD_eq_getElem?_getD, List.getD_eq_getElem?_getD, List.getElem?_drop, List.getElem?_take, if_pos (by omega), show first + (a - first) = a by omega]
    have e2 : ls.getD 0 kv0 = all.getD a kv0 := by
     rw [hls, List.getD_eq_getElem?_getD, List.getD_eq_getElem?_getD, List.getElem?_take, if_pos (by omega), List.getElem?_drop, Nat.add_zero]
    rw [e1, e2]
   ·have hlt := half_lt (n := ls.length) (by omega)
    have hp := half_pos ls.length
    have l1 : (ls.take (half ls.length)).length = half ls.length := by rw [List.length_take]; omega
    have l2 : (ls.drop (half ls.length)).length = ls.length - half ls.length := by rw [List.length_drop]
    have i1 := ih (half ls.length) (by omega) (ls.take (half ls.length)) a l1 (by omega) (by
     rw [l1]
     have e := congrArg (List.take (half ls.length)) hls
     rw [List.take_take, Nat.min_eq_left (by omega)] at e
     exact e) (by omega)
    have i2 := ih (ls.length - half ls.length) (by omega) (ls.drop (half ls.length)) (a + half ls.length) l2 (by omega) (by
     rw [l2]
     have e := congrArg (List.drop (half ls.length)) hls
     rw [List.drop_take, List.drop_drop] at e
     exact e) (by omega)
    rw [l1] at i1
    rw [l2] at i2
    rw [con_s (by omega) ho', sides_s (by omega) ho, List.append_assoc, i1, rowD_s (ls := ls) (by omega)]
    simp only
    rw [i2]
end Mk
end Go.Fw
end

section
/- Lists of leaves that are in order. -/
namespace Go.Fw
namespace Mk
def bigB (x : Lf) : Bool := decide (65536 < x.1.length) || decide (65536 < x.2.length)
def ascN (ls : List Lf) : Nat → Bool
 | 0 => true
 | n + 1 => ascN ls n && (decide (n = 0) || lt (ls.getD (n - 1) kv0).1 (ls.getD n kv0).1)
def vE (ls : List Lf) : Int := if 4096 < ls.length ∨ ls.any bigB = true then 4 else if ascN ls ls.length = true then 0 else 1
def Asc (ls : List Lf) : Prop := ∀ i, i + 1 < ls.length → lt (ls.getD i kv0).1 (ls.getD (i + 1) kv0).1 = true
theorem asc_of {ls : List Lf} : ∀ n, ascN ls n = true → ∀ i, i + 1 < n → lt (ls.getD i kv0).1 (ls.getD (i + 1) kv0).1 = true
 | 0, _, i, hi => absurd hi (by omega)
 | n + 1, h, i, hi => by
  rw [ascN, Bool.and_eq_true] at h
  by_cases hin : i + 1 = n
  ·have h2 := h.2
   rw [show decide (n = 0) = false from decide_eq_false (by omega), Bool.false_or, show n - 1 = i by omega, ← hin] at h2
   exact h2
  ·exact asc_of n h.1 i (by omega)
theorem vE_asc {ls : List Lf} (h : vE ls = 0) : Asc ls ∧ ls.length ≤ 4096 ∧ ∀ x ∈ ls, x.1.length ≤ 65536 ∧ x.2.length ≤ 65536 := by
 unfold vE at h
 split at h
 ·cases h
 ·rename_i h1
  split at h
  ·rename_i h2
   refine ⟨fun i hi => asc_of _ h2 i hi, by omega, fun x hx => ?_⟩
   have h3 : ls.any bigB = false := by
    cases h4 : ls.any bigB with
    | true => exact absurd (.inr h4) h1
    | false => rfl
   have := List.any_eq_false.1 h3 x hx
   simp only [bigB, Bool.or_eq_true, decide_eq_true_eq, not_or] at this
   omega
  ·cases h
def frN (ls : List Lf) (k : List UInt8) : Nat → Nat
 | 0 => 0
 | n + 1 => frN ls k n + (if lt (ls.getD n kv0).1 k = true then 1 else 0)
def frm (ls : List Lf) (k : List UInt8) : Nat := frN ls k ls.length
def hasF (ls : List Lf) (k : List UInt8) : Option Nat := if frm ls k < ls.length ∧ (ls.getD (frm ls k) kv0).1 = k then some (frm ls k) else none
end Mk
end Go.Fw
end

section
/- What the small functions over leaves compute. -/
namespace Go.Fw
namespace Mk
def ixF (p : Lf → Bool) (xs : List Lf) : Int := match xs.findIdx? p with
 | some k => k
 | none => -1
theorem ixF_at {p : Lf → Bool} {xs : List Lf} {i : Nat} (hi : i < xs.length) (hp : p (xs.getD i kv0) = true) (hn : ∀ j, j < i → p (xs.getD j kv0) = false) : ixF p xs = i := by
 have : xs.findIdx? p = some i := by
  rw [List.findIdx?_eq_some_iff_getElem]
  refine ⟨hi, by simpa [hi] using hp, fun j hj => ?_⟩
  have := hn j hj
  have hj' : j < xs.length := by omega
  simpa [hj'] using this
 unfold ixF
 rw [this]
theorem ixF_no {p : Lf → Bool} {xs : List Lf} (hn : ∀ j, j < xs.length → p (xs.getD j kv0) = false) : ixF p xs = -1 := by
 have : xs.findIdx? p = none := by
  rw [List.findIdx?_eq_none_iff]
  intro x hx
  obtain ⟨j, hj, rfl⟩ := List.mem_iff_getElem.1 hx
  have := hn j hj
  simpa [hj] using this
 unfold ixF
 rw [this]
theorem ixF_any (p : Lf → Bool) (xs : List Lf) : decide (0 ≤ ixF p xs) = xs.any p := by
 unfold ixF
 cases h : xs.findIdx? p with
 | none =>
  have h := List.findIdx?_eq_none_iff.1 h
  have : xs.any p = false := List.any_eq_false.2 fun x hx => by simp [h x hx]
  rw [this]; rfl
 | some k =>
  obtain ⟨h1, h2, _⟩ := List.findIdx?_eq_some_iff_getElem.1 h
  have : xs.any p = true := List.any_eq_true.2 ⟨_, List.getElem_mem h1, h2⟩
  rw [this]
  exact decide_eq_true (Int.natCast_nonneg k)
theorem none_step {p : Lf → Bool} {xs : List Lf} {i : Int} (hi : 0 ≤ i) (hp : p (xs.getD i.toNat kv0) = false) (hn : ∀ j, j < i.toNat → p (xs.getD j kv0) = false) : ∀ j, j < (i + 1).toNat → p (xs.getD j kv0) = false := fun j hj => by
 rcases Nat.lt_or_ge j i.toNat with h | h
 ·exact hn j h
 ·obtain rfl : j = i.toNat := by omega
  exact hp
theorem big_eq (x : Lf) : (decide ((65536 : Int) < (x.1.length : Int)) || decide ((65536 : Int) < (x.2.length : Int))) = bigB x := by
 unfold bigB
 congr 1 <;> exact decide_eq_decide.2 (by omega)
theorem pow_half {n : Nat} {m : Int} {j : Nat} (hm : m = ((2 ^ j : Nat) : Int)) (h1 : j = 0 ∨ 2 ^ j < n) (h2 : ¬ 2 * m < (n : Int)) (hn : 2 ≤ n) : m = (half n : Int) := by
 have h3 : ¬ 2 * 2 ^ j < n := by omega
 have h4 : 2 ^ j < n := by
  rcases h1 with rfl | h1
  ·omega
  ·exact h1
 rw [half_eq h4 h3]; exact hm
def sub (ls : List Lf) (a n : Nat) : List Lf := (ls.drop a).take n
theorem sub_len {ls : List Lf} {a n : Nat} (h : a + n ≤ ls.length) : (sub ls a n).length = n := by
 unfold sub; rw [List.length_take, List.length_drop]; omega
theorem sub_get {ls : List Lf} {a n i : Nat} (h : i < n) : (sub ls a n).getD i kv0 = ls.getD (a + i) kv0 := by
 unfold sub
 rw [List.getD_eq_getElem?_getD, List.getElem?_take, if_pos h, List.getElem?_drop, ← List.getD_eq_getElem?_getD]
theorem sub_take {ls : List Lf} {a n k : Nat} (h : k ≤ n) : (sub ls a n).take k = sub ls a k := by
 unfold sub; rw [List.take_take, Nat.min_eq_left h]
theorem sub_drop {ls : List Lf} {a n k : Nat} : (sub ls a n).drop k = sub ls (a + k) (n - k) := by
 unfold sub; rw [List.drop_take, List.drop_drop]
theorem sub_all (ls : List Lf) : sub ls 0 ls.length = ls := by unfold sub; rw [List.drop_zero, List.take_length]
theorem rowD_sub1 {ls : List Lf} {a : Nat} (h : a + 1 ≤ ls.length) : rowD (sub ls a 1) = leafD (ls.getD a kv0) := by
 rw [rowD_1 (sub_len h), sub_get (by omega), Nat.add_zero]
theorem rowD_sub {ls : List Lf} {a n : Nat} (h : a + n ≤ ls.length) (hn : 2 ≤ n) : rowD (sub ls a n) = nodeD (rowD (sub ls a (half n))) (rowD (sub ls (a + half n) (n - half n))) := by
 have hl := half_lt hn
 rw [rowD_s (by rw [sub_len h]; exact hn), sub_len h, sub_take (by omega), sub_drop]
end Mk
end Go.Fw
namespace Go.Fw
namespace Mk
theorem mid_eq {s : Int} (h0 : 0 ≤ s) (h1 : s < 4611686018427387904) : sgn (UInt64.ofNat ((ofq s).toNat / 2 ^ (min (1 : Int).toNat 64))) = s / 2 := by
 have e1 : (ofq s).toNat = s.toNat := by
  obtain ⟨n, rfl⟩ := Int.eq_ofNat_of_zero_le h0
  simp [ofq]
  omega
 rw [e1, show (2 : Nat) ^ (min (1 : Int).toNat 64) = 2 from rfl]
 have e2 : (UInt64.ofNat (s.toNat / 2)).toNat = s.toNat / 2 := by simp; omega
 unfold sgn
 rw [e2]
 rw [if_pos (by omega)]
 omega
theorem asc_all {ls : List Lf} : ∀ n, (∀ i, i + 1 < n → lt (ls.getD i kv0).1 (ls.getD (i + 1) kv0).1 = true) → ascN ls n = true
 | 0, _ => rfl
 | n + 1, h => by
  rw [ascN, asc_all n fun i hi => h i (by omega), Bool.true_and]
  cases n with
  | zero => rfl
  | succ n => rw [show n + 1 - 1 = n by omega, h n (by omega)]; simp
theorem asc_next {ls : List Lf} {i : Int} (h0 : 0 ≤ i) (h : ascN ls i.toNat = true) (hn : ¬ (0 < i ∧ (!lt (ls.getD (i - 1).toNat kv0).1 (ls.getD i.toNat kv0).1) = true)) : ascN ls (i + 1).toNat = true := by
 rw [show (i + 1).toNat = i.toNat + 1 by omega, ascN, h, Bool.true_and]
 by_cases hi : i = 0
 ·subst hi; rfl
 ·rw [show (i - 1).toNat = i.toNat - 1 by omega] at hn
  have : lt (ls.getD (i.toNat - 1) kv0).1 (ls.getD i.toNat kv0).1 = true := by
   cases h3 : lt (ls.getD (i.toNat - 1) kv0).1 (ls.getD i.toNat kv0).1 with
   | true => rfl
   | false => exact absurd ⟨by omega, by rw [h3]; rfl⟩ hn
  rw [this]; simp
theorem asc_stop {ls : List Lf} {i : Int} (h0 : 0 < i) (hl : i < ls.length) (h : lt (ls.getD (i - 1).toNat kv0).1 (ls.getD i.toNat kv0).1 = false) : ascN ls ls.length = false := by
 cases h2 : ascN ls ls.length with
 | false => rfl
 | true =>
  have := asc_of _ h2 (i - 1).toNat (by omega)
  rw [show (i - 1).toNat + 1 = i.toNat by omega, h] at this
  cases this
theorem vE_4 {ls : List Lf} (h : 4096 < ls.length ∨ ls.any bigB = true) : vE ls = 4 := by unfold vE; rw [if_pos h]
theorem vE_1 {ls : List Lf} (h : ¬ (4096 < ls.length ∨ ls.any bigB = true)) (h2 : ascN ls ls.length = false) : vE ls = 1 := by unfold vE; rw [if_neg h, if_neg (by rw [h2]; simp)]
theorem vE_0 {ls : List Lf} (h : ¬ (4096 < ls.length ∨ ls.any bigB = true)) (h2 : ascN ls ls.length = true) : vE ls = 0 := by unfold vE; rw [if_neg h, if_pos h2]
end Mk
end Go.Fw
namespace Go.Fw
namespace Mk
def fnd (ls : List Lf) (k : List UInt8) : Bool := decide (frm ls k < ls.length) && decide ((ls.getD (frm ls k) kv0).1 = k)
end Mk
end Go.Fw
namespace Go.Fw
namespace Mk
theorem getD_in {xs : List Lf} {k : Nat} (h : k < xs.length) : xs.getD k kv0 ∈ xs := by rw [List.getD_eq_getElem?_getD, List.getElem?_eq_getElem h]; exact List.getElem_mem h
def rootE (ls : List Lf) : Dg × Int := if vE ls = 0 then (rootD ls.length (rowD ls), 0) else (List.replicate 16 0, vE ls)
theorem rootE_e {ls : List Lf} (h : vE ls ≠ 0) : rootE ls = (List.replicate 16 0, vE ls) := if_neg h
theorem rootE_n {ls : List Lf} (h : vE ls = 0) : rootE ls = (rootD ls.length (rowD ls), 0) := if_pos h
theorem rootE_0 {ls : List Lf} (h : vE ls = 0) (h0 : ls.length = 0) : rootE ls = (rootD 0 (List.replicate 16 0), 0) := by rw [rootE_n h, h0]; unfold rootD; rw [if_pos rfl, if_pos rfl]
end Mk
end Go.Fw
namespace Go.Fw
namespace Mk
theorem getD_inD {xs : List Dg} {k : Nat} (h : k < xs.length) : xs.getD k [] ∈ xs := by rw [List.getD_eq_getElem?_getD, List.getElem?_eq_getElem h]; exact List.getElem_mem h
end Mk
end Go.Fw
namespace Go.Fw
namespace Mk
theorem two_lt {x y : List UInt8} (hx : x.length < 1048576) (hy : y.length < 1048576) : ∀ p ∈ [x, y], p.length < 1048576 := fun p hp => by
 simp only [List.mem_cons, List.not_mem_nil, or_false] at hp
 rcases hp with rfl | rfl <;> assumption
theorem two_le {x y : List UInt8} (hx : x.length ≤ 140737488355328) (hy : y.length ≤ 140737488355328) : ∀ p ∈ [x, y], p.length ≤ 140737488355328 := fun p hp => by
 simp only [List.mem_cons, List.not_mem_nil, or_false] at hp
 rcases hp with rfl | rfl <;> assumption
end Mk
end Go.Fw
namespace Go.Fw
namespace Mk
end Mk
end Go.Fw
end

section
/- What the reference makes of a tree: the texts that are hashed, the sides that are used. -/
namespace Go.Fw
namespace Mk
def zD : Dg := List.replicate 16 0
theorem zD_16 : zD.length = 16 := rfl
def leafT (x : Lf) : List UInt8 := Sha.inp 3 [x.1, x.2]
def nodeT (a b : Dg) : List UInt8 := Sha.inp 4 [a, b]
def rootT (n : Nat) (d : Dg) : List UInt8 := if n = 0 then Sha.inp 4 [Wi.int 0] else Sha.inp 4 [Wi.int n, d]
abbrev Tx := List (List UInt8)
def rr (first : Nat) (lv : List Lf) (sd : List Dg) : Nat → Nat → Nat → Tx → Nat → Bool → Dg × Tx × Nat × Bool
 | 0, _, _, T, u, s => (zD, T, u, s)
 | f + 1, n, a, T, u, s =>
  if a + n ≤ first ∨ first + lv.length ≤ a then
   (if sd.length ≤ u then (zD, T, u, true) else (sd.getD u [], T, u + 1, s))
  else if n ≤ 1 then (leafD (lv.getD (a - first) kv0), T ++ [leafT (lv.getD (a - first) kv0)], u, s)
  else
   let r1 := rr first lv sd f (half n) a T u s
   let r2 := rr first lv sd f (n - half n) (a + half n) r1.2.1 r1.2.2.1 r1.2.2.2
   (nodeD r1.1 r2.1, r2.2.1 ++ [nodeT r1.1 r2.1], r2.2.2.1, r2.2.2.2)
section
variable {first : Nat} {lv : List Lf} {sd : List Dg} {f n a : Nat} {T : Tx} {u : Nat} {s : Bool}
theorem rr_short (ho : a + n ≤ first ∨ first + lv.length ≤ a) (h : sd.length ≤ u) : rr first lv sd (f + 1) n a T u s = (zD, T, u, true) := by rw [rr, if_pos ho, if_pos h]
theorem rr_side (ho : a + n ≤ first ∨ first + lv.length ≤ a) (h : ¬ sd.length ≤ u) : rr first lv sd (f + 1) n a T u s = (sd.getD u [], T, u + 1, s) := by rw [rr, if_pos ho, if_neg h]
theorem rr_leaf (ho : ¬ (a + n ≤ first ∨ first + lv.length ≤ a)) (h : n = 1) : rr first lv sd (f + 1) n a T u s = (leafD (lv.getD (a - first) kv0), T ++ [leafT (lv.getD (a - first) kv0)], u, s) := by rw [rr, if_neg ho, if_pos (by omega)]
theorem rr_node (ho : ¬ (a + n ≤ first ∨ first + lv.length ≤ a)) (h : 2 ≤ n) {r1 r2 : Dg × Tx × Nat × Bool} (h1 : r1 = rr first lv sd f (half n) a T u s) (h2 : r2 = rr first lv sd f (n - half n) (a + half n) r1.2.1 r1.2.2.1 r1.2.2.2) :
  rr first lv sd (f + 1) n a T u s = (nodeD r1.1 r2.1, r2.2.1 ++ [nodeT r1.1 r2.1], r2.2.2.1, r2.2.2.2) := by
 subst h1; subst h2
 rw [rr, if_neg ho, if_neg (by omega)]
end
theorem rr_bd {first : Nat} {lv : List Lf} {sd : List Dg} (h16 : ∀ d ∈ sd, d.length = 16) : ∀ (f n a : Nat) (T : Tx) (u : Nat) (s : Bool), 1 ≤ n → n ≤ f →
  (rr first lv sd f n a T u s).1.length = 16 ∧ (rr first lv sd f n a T u s).2.1.length + 1 ≤ T.length + 2 * n ∧ (rr first lv sd f n a T u s).2.2.1 ≤ u + n ∧ ((rr first lv sd f n a T u s).2.2.1 ≤ sd.length ∨ sd.length < u)
 | 0, n, a, T, u, s, h1, h2 => absurd h1 (by omega)
 | f + 1, n, a, T, u, s, h1, h2 => by
  by_cases ho : a + n ≤ first ∨ first + lv.length ≤ a
  ·by_cases h : sd.length ≤ u
   ·rw [rr_short ho h]; exact ⟨zD_16, by dsimp only; omega, by dsimp only; omega, by dsimp only; omega⟩
   ·rw [rr_side ho h]
    refine ⟨?_, by dsimp only; omega, by dsimp only; omega, by dsimp only; omega⟩
    dsimp only
    rw [List.getD_eq_getElem?_getD, List.getElem?_eq_getElem (by omega), Option.getD_some]
    exact h16 _ (List.getElem_mem _)
  ·by_cases h : n = 1
   ·rw [rr_leaf ho h]; exact ⟨leafD_16 _, by dsimp only; rw [List.length_append, List.length_singleton]; omega, by dsimp only; omega, by dsimp only; omega⟩
   ·have hp := half_pos n
    have hl := half_lt (n := n) (by omega)
    have b1 := rr_bd h16 (lv := lv) (first := first) f (half n) a T u s hp (by omega)
    rw [rr_node ho (by omega) rfl rfl]
    generalize rr first lv sd f (half n) a T u s = r1 at b1 ⊢
    have b2 := rr_bd h16 (lv := lv) (first := first) f (n - half n) (a + half n) r1.2.1 r1.2.2.1 r1.2.2.2 (by omega) (by omega)
    generalize rr first lv sd f (n - half n) (a + half n) r1.2.1 r1.2.2.1 r1.2.2.2 = r2 at b2 ⊢
    refine ⟨nodeD_16 _ _, by dsimp only; rw [List.length_append, List.length_singleton]; omega, by dsimp only; omega, by dsimp only; omega⟩
def rrR (first : Nat) (lv : List Lf) (sd : List Dg) (n : Nat) : Dg × Tx × Nat × Bool :=
 if n = 0 then (rootD 0 zD, [rootT 0 zD], 0, false)
 else (rootD n (rr first lv sd n n 0 [] 0 false).1, (rr first lv sd n n 0 [] 0 false).2.1 ++ [rootT n (rr first lv sd n n 0 [] 0 false).1], (rr first lv sd n n 0 [] 0 false).2.2.1, (rr first lv sd n n 0 [] 0 false).2.2.2)
end Mk
end Go.Fw
namespace Go.Fw
namespace Mk
theorem rr_full {ls : List Lf} {sd : List Dg} : ∀ (f n a : Nat) (T : Tx) (u : Nat) (s : Bool), 1 ≤ n → n ≤ f → a + n ≤ ls.length →
  (rr 0 ls sd f n a T u s).1 = rowD (sub ls a n) ∧ (rr 0 ls sd f n a T u s).2.2 = (u, s)
 | 0, n, a, T, u, s, h1, h2, _ => absurd h1 (by omega)
 | f + 1, n, a, T, u, s, h1, h2, h3 => by
  have ho : ¬ (a + n ≤ 0 ∨ 0 + ls.length ≤ a) := by omega
  by_cases h : n = 1
  ·subst h
   rw [rr_leaf ho rfl, rowD_sub1 h3]
   exact ⟨rfl, rfl⟩
  ·have hp := half_pos n
   have hl := half_lt (n := n) (by omega)
   have b1 := rr_full (ls := ls) (sd := sd) f (half n) a T u s hp (by omega) (by omega)
   rw [rr_node ho (by omega) rfl rfl]
   generalize rr 0 ls sd f (half n) a T u s = r1 at b1 ⊢
   have b2 := rr_full (ls := ls) (sd := sd) f (n - half n) (a + half n) r1.2.1 r1.2.2.1 r1.2.2.2 (by omega) (by omega) (by omega)
   generalize rr 0 ls sd f (n - half n) (a + half n) r1.2.1 r1.2.2.1 r1.2.2.2 = r2 at b2 ⊢
   refine ⟨?_, ?_⟩
   ·show nodeD r1.1 r2.1 = _
    rw [b1.1, b2.1, rowD_sub h3 (by omega)]
   ·show (r2.2.2.1, r2.2.2.2) = _
    have e1 := b1.2
    have e2 := b2.2
    rw [Prod.ext_iff] at e1 e2 ⊢
    exact ⟨e2.1.trans e1.1, e2.2.trans e1.2⟩
theorem rrR_0 (first : Nat) (lv : List Lf) (sd : List Dg) {n : Nat} (h : n = 0) : rrR first lv sd n = (rootD 0 zD, [rootT 0 zD], 0, false) := by unfold rrR; rw [if_pos h]
theorem rrR_n {first : Nat} {lv : List Lf} {sd : List Dg} {n : Nat} (h : ¬ n = 0) {r : Dg × Tx × Nat × Bool} (hr : r = rr first lv sd n n 0 [] 0 false) : rrR first lv sd n = (rootD n r.1, r.2.1 ++ [rootT n r.1], r.2.2.1, r.2.2.2) := by subst hr; unfold rrR; rw [if_neg h]
theorem rootT_0 (d : Dg) : rootT 0 d = Sha.inp 4 [Wi.int ((0 : Nat) : Int)] := if_pos rfl
theorem rootD_0 (d : Dg) : rootD 0 d = Sha.ofD 4 [Wi.int ((0 : Nat) : Int)] := if_pos rfl
theorem rootT_n {n : Nat} (h : ¬ n = 0) (d : Dg) : rootT n d = Sha.inp 4 [Wi.int (n : Int), d] := if_neg h
theorem rootD_n {n : Nat} (h : ¬ n = 0) (d : Dg) : rootD n d = Sha.ofD 4 [Wi.int (n : Int), d] := if_neg h
end Mk
end Go.Fw
namespace Go.Fw
namespace Mk
section
variable {ls : List Lf} {first en a n : Nat}
theorem sides_1' (h : a + 1 ≤ ls.length) (ho : ¬ (a + 1 ≤ first ∨ en ≤ a)) : sidesD first en (sub ls a 1) a = [] := sides_1 (sub_len h) (by rw [sub_len h]; exact ho)
theorem sides_s' (hn : 2 ≤ n) (h : a + n ≤ ls.length) (ho : ¬ (a + n ≤ first ∨ en ≤ a)) : sidesD first en (sub ls a n) a = sidesD first en (sub ls a (half n)) a ++ sidesD first en (sub ls (a + half n) (n - half n)) (a + half n) := by
 have hl := half_lt hn
 rw [sides_s (by rw [sub_len h]; exact hn) (by rw [sub_len h]; exact ho), sub_len h, sub_take (by omega), sub_drop]
end
structure Pf where
 fst : Int
 sz : Int
 lv : List Lf
 sd : List Dg
def shown (ls : List Lf) (first en : Nat) : Pf := ⟨first, ls.length, (ls.take en).drop first, if ls.length = 0 then [] else sidesD first en ls 0⟩
end Mk
def PfZ (q : Mk.Pf) (lv sv : Value) (z : PH) : Prop := Sl encF z lv q.lv ∧ Sl (encA 16) z sv q.sd
def PfR (q : Mk.Pf) : Value → List PH → List Res → Prop := fun r zs hs => ∃ lv sv z, r = .agg [vi q.fst, vi q.sz, lv, sv].toArray ∧ Sl encF z lv q.lv ∧ Sl (encA 16) z sv q.sd ∧ zs = [z] ∧ hs = []
def PfE (q : Mk.Pf) (e : Int) : Value → List PH → List Res → Prop := fun r zs hs => ∃ lv sv z, r = .tuple [.agg [vi q.fst, vi q.sz, lv, sv].toArray, vi e].toArray ∧ Sl encF z lv q.lv ∧ Sl (encA 16) z sv q.sd ∧ zs = [z] ∧ hs = []
end Go.Fw
end

section
/- What the reference's helpers and both Proves compute. -/
namespace Go.Fw
namespace Mk
def pf0 : Pf := ⟨0, 0, [], []⟩
def provE (ls : List Lf) (k : List UInt8) : Pf × Int :=
 if vE ls = 0 then (if fnd ls k = true then (shown ls (frm ls k) (frm ls k + 1), 0) else (shown ls (frm ls k - 1) (min (frm ls k + 1) ls.length), 0)) else (pf0, vE ls)
def rangE (ls : List Lf) (k m : List UInt8) : Pf × Int :=
 if vE ls = 0 then (if lt m k = true then (pf0, 5) else (shown ls (frm ls k - 1) (min (frm ls m + 1) ls.length), 0)) else (pf0, vE ls)
section
variable {ls : List Lf} {k m : List UInt8}
end
def hasI (ls : List Lf) (k : List UInt8) : Int := ixF (fun x => decide (x.1 = k)) ls
def inB (k m : List UInt8) (x : Lf) : Bool := !lt x.1 k && lt x.1 m
def inside (ls : List Lf) (k m : List UInt8) : List Lf := ls.filter (inB k m)
theorem take_snoc {α : Type} (d : α) {xs : List α} {i : Nat} (h : i < xs.length) : xs.take (i + 1) = xs.take i ++ [xs.getD i d] := by
 rw [List.take_add_one, List.getElem?_eq_getElem h, List.getD_eq_getElem?_getD, List.getElem?_eq_getElem h]; rfl
def samePf (p q : Pf) : Bool := ((decide (p.fst = q.fst) && decide (p.sz = q.sz)) && decide (p.lv = q.lv)) && decide (p.sd = q.sd)
def keyB (n : Int) : List UInt8 := if n % 3 = 0 then [ofb (97 + n / 3)] else [ofb (97 + n / 3), ofb (97 + n % 3)]
def vals : List (List UInt8) := [[], [49], [50], [97, 32, 98], [49, 50]]
def lvs (l : List Int) : Nat → List Lf × Int
 | 0 => ([], -1)
 | i + 1 => ((lvs l i).1 ++ [(keyB ((lvs l i).2 + 1 + Gu.atN l (2 * i) 3), vals.getD (Gu.atN l (2 * i + 1) 5).toNat [])], (lvs l i).2 + 1 + Gu.atN l (2 * i) 3)
def lvC (l : List Int) : Nat := min 11 ((l.length + 1) / 2)
def leavesL (l : List Int) : List Lf := (lvs l (lvC l)).1
def keyL (ls : List Lf) (n : Int) : List UInt8 :=
 let k := Gu.arnd n (3 * ls.length + 5)
 if k < ls.length then (ls.getD k.toNat kv0).1 else if k < 2 * ls.length then (ls.getD (k - ls.length).toNat kv0).1 ++ [97] else if k = 2 * ls.length then [] else keyB k
def leavesR (raw : List Lf) : List Lf := (raw.take 8).map fun x => (x.1.take 40, x.2.take 40)
end Mk
end Go.Fw
namespace Go.Fw
namespace Mk
end Mk
end Go.Fw
end

section
/- What Under, Check, CheckRange say, in both programs. -/
namespace Go.Fw
namespace Mk
def ug (first : Nat) (lv : List Lf) : Nat → Nat → Nat → List Dg → Bool → Dg × List Dg × Bool
 | 0, _, _, sd, s => (zD, sd, s)
 | f + 1, n, a, sd, s =>
  if s = false then (zD, sd, false)
  else if a + n ≤ first ∨ first + lv.length ≤ a then (match sd with | [] => (zD, [], false) | d :: t => (d, t, true))
  else if n ≤ 1 then (leafD (lv.getD (a - first) kv0), sd, s)
  else
   let r1 := ug first lv f (half n) a sd s
   let r2 := ug first lv f (n - half n) (a + half n) r1.2.1 r1.2.2
   (nodeD r1.1 r2.1, r2.2.1, r2.2.2)
section
variable {first : Nat} {lv : List Lf} {f n a : Nat} {sd : List Dg} {s : Bool}
end
theorem rr_true {first : Nat} {lv : List Lf} {sd : List Dg} : ∀ (f n a : Nat) (T : Tx) (u : Nat), (rr first lv sd f n a T u true).2.2.2 = true
 | 0, n, a, T, u => rfl
 | f + 1, n, a, T, u => by
  by_cases ho : a + n ≤ first ∨ first + lv.length ≤ a
  ·by_cases h : sd.length ≤ u
   ·rw [rr_short ho h]
   ·rw [rr_side ho h]
  ·by_cases h : n ≤ 1
   ·rw [rr, if_neg ho, if_pos h]
   ·have b1 := rr_true (first := first) (lv := lv) (sd := sd) f (half n) a T u
    rw [rr_node ho (by omega) rfl rfl]
    generalize rr first lv sd f (half n) a T u true = r1 at b1 ⊢
    have b2 := rr_true (first := first) (lv := lv) (sd := sd) f (n - half n) (a + half n) r1.2.1 r1.2.2.1
    dsimp only
    rw [b1]; exact b2
theorem rr_con {first : Nat} {lv : List Lf} {sd : List Dg} : ∀ (f n a : Nat) (T : Tx) (u : Nat) (s : Bool), 1 ≤ n → n ≤ f → u ≤ sd.length →
  (∀ d t, cn_ first lv f n a (sd.drop u) = some (d, t) → (rr first lv sd f n a T u s).1 = d ∧ (rr first lv sd f n a T u s).2.2.1 ≤ sd.length ∧ sd.drop (rr first lv sd f n a T u s).2.2.1 = t ∧ (rr first lv sd f n a T u s).2.2.2 = s) ∧
  (cn_ first lv f n a (sd.drop u) = none → (rr first lv sd f n a T u s).2.2.2 = true)
 | 0, n, a, T, u, s, h1, h2, _ => absurd h1 (by omega)
 | f + 1, n, a, T, u, s, h1, h2, hu => by
  rw [cn_s]
  by_cases ho : a + n ≤ first ∨ first + lv.length ≤ a
  ·rw [if_pos ho]
   by_cases h : sd.length ≤ u
   ·rw [rr_short ho h, List.drop_of_length_le h]; exact ⟨fun d t h => by (simp only at h; cases h), fun _ => rfl⟩
   ·rw [rr_side ho h]
    have e : sd.drop u = sd.getD u [] :: sd.drop (u + 1) := by
     rw [List.drop_eq_getElem_cons (by omega), List.getD_eq_getElem?_getD, List.getElem?_eq_getElem (by omega)]; rfl
    rw [e]
    refine ⟨fun d t h => ?_, fun h => by (simp only at h; cases h)⟩
    simp only [Option.some.injEq, Prod.mk.injEq] at h
    exact ⟨h.1, by dsimp only; omega, h.2, rfl⟩
  ·rw [if_neg ho]
   by_cases h3 : n ≤ 1
   ·rw [if_pos h3, rr_leaf ho (by omega)]
    refine ⟨fun d t h => ?_, fun h => by cases h⟩
    simp only [Option.some.injEq, Prod.mk.injEq] at h
    exact ⟨h.1, hu, h.2, rfl⟩
   ·have hp := half_pos n
    have hl := half_lt (n := n) (by omega)
    obtain ⟨b1, b2⟩ := rr_con (first := first) (lv := lv) (sd := sd) f (half n) a T u s hp (by omega) hu
    rw [if_neg h3, rr_node ho (by omega) rfl rfl]
    generalize rr first lv sd f (half n) a T u s = r1 at b1 b2 ⊢
    obtain ⟨r1d, r1T, r1u, r1s⟩ := r1
    dsimp only at b1 b2 ⊢
    cases hc : cn_ first lv f (half n) a (sd.drop u) with
    | none =>
     refine ⟨fun d t h => by (simp only at h; cases h), fun _ => ?_⟩
     rw [b2 hc]; exact rr_true _ _ _ _ _
    | some p =>
     obtain ⟨x, s1⟩ := p
     obtain ⟨e1, e2, e3, e4⟩ := b1 x s1 hc
     dsimp only
     rw [← e3]
     obtain ⟨c1, c2⟩ := rr_con (first := first) (lv := lv) (sd := sd) f (n - half n) (a + half n) r1T r1u r1s (by omega) (by omega) e2
     generalize rr first lv sd f (n - half n) (a + half n) r1T r1u r1s = r2 at c1 c2 ⊢
     cases hc2 : cn_ first lv f (n - half n) (a + half n) (sd.drop r1u) with
     | none => exact ⟨fun d t h => by (simp only at h; cases h), fun _ => c2 hc2⟩
     | some q =>
      obtain ⟨y, s2⟩ := q
      obtain ⟨g1, g2, g3, g4⟩ := c1 y s2 hc2
      refine ⟨fun d t h => ?_, fun h => by (simp only at h; cases h)⟩
      simp only [Option.some.injEq, Prod.mk.injEq] at h
      exact ⟨by rw [e1, g1]; exact h.1, g2, by rw [g3]; exact h.2, g4.trans e4⟩
def okP (q : Pf) : Prop := 0 ≤ q.sz ∧ q.sz ≤ 4096 ∧ 0 ≤ q.fst ∧ q.fst ≤ q.sz ∧ q.fst + q.lv.length ≤ q.sz ∧ vE q.lv = 0
instance (q : Pf) : Decidable (okP q) := by unfold okP; infer_instance
def conB (q : Pf) (r : Dg) : Bool := match conD q.fst.toNat q.lv q.sz.toNat 0 q.sd with
 | some (d, []) => decide (rootD q.sz.toNat d = r)
 | _ => false
def undB (q : Pf) (r : Dg) : Bool := if okP q then (if q.sz = 0 then (decide (q.sd = []) && decide (rootD 0 zD = r)) else if q.lv = [] then false else conB q r) else false
theorem und_no {q : Pf} {r : Dg} (h : ¬ okP q) : undB q r = false := by unfold undB; rw [if_neg h]
theorem und_0 {q : Pf} {r : Dg} (h : okP q) (h0 : q.sz = 0) : undB q r = (decide (q.sd = []) && decide (rootD 0 zD = r)) := by unfold undB; rw [if_pos h, if_pos h0]
theorem und_nil {q : Pf} {r : Dg} (h0 : ¬ q.sz = 0) (h1 : q.lv = []) : undB q r = false := by
 unfold undB
 by_cases h : okP q
 ·rw [if_pos h, if_neg h0, if_pos h1]
 ·rw [if_neg h]
theorem und_n {q : Pf} {r : Dg} (h : okP q) (h0 : ¬ q.sz = 0) (h1 : ¬ q.lv = []) : undB q r = conB q r := by unfold undB; rw [if_pos h, if_neg h0, if_neg h1]
theorem con_rr {q : Pf} {r : Dg} (h : 1 ≤ q.sz.toNat) {σ : Dg × Tx × Nat × Bool} (hσ : σ = rr q.fst.toNat q.lv q.sd q.sz.toNat q.sz.toNat 0 [] 0 false) : ((!σ.2.2.2 && decide (((σ.2.2.1 : Nat) : Int) = (q.sd.length : Int))) && decide (rootD q.sz.toNat σ.1 = r)) = conB q r := by
 subst hσ
 obtain ⟨h1, h2⟩ := rr_con (first := q.fst.toNat) (lv := q.lv) (sd := q.sd) q.sz.toNat q.sz.toNat 0 [] 0 false h (Nat.le_refl _) (Nat.zero_le _)
 rw [List.drop_zero] at h1 h2
 unfold conB conD
 cases hc : cn_ q.fst.toNat q.lv q.sz.toNat q.sz.toNat 0 q.sd with
 | none => rw [h2 hc]; rfl
 | some p =>
  obtain ⟨d, t⟩ := p
  obtain ⟨e1, e2, e3, e4⟩ := h1 d t hc
  rw [e1, e4]
  generalize (rr q.fst.toNat q.lv q.sd q.sz.toNat q.sz.toNat 0 [] 0 false).2.2.1 = u at e2 e3 ⊢
  have hl := congrArg List.length e3
  rw [List.length_drop] at hl
  cases t with
  | nil =>
   rw [List.length_nil] at hl
   have : decide ((u : Int) = (q.sd.length : Int)) = true := decide_eq_true (by omega)
   rw [this]; simp
  | cons x y =>
   rw [List.length_cons] at hl
   have : decide ((u : Int) = (q.sd.length : Int)) = false := decide_eq_false (by omega)
   rw [this]; rfl
def chkE (r : Dg) (k : List UInt8) (q : Pf) : List UInt8 × Bool × Int :=
  if undB q r = true then
    (if fnd q.lv k = true then ((q.lv.getD (frm q.lv k) kv0).2, true, 0)
     else if (0 < frm q.lv k ∨ q.fst = 0) ∧ (frm q.lv k < q.lv.length ∨ q.fst + q.lv.length = q.sz) then ([], false, 0) else ([], false, 17))
  else ([], false, 17)
theorem und_ok {q : Pf} {r : Dg} (h : undB q r = true) : okP q := by
 by_cases h1 : okP q
 ·exact h1
 ·rw [und_no h1] at h; cases h
theorem und_lv {q : Pf} {r : Dg} (h : undB q r = true) : q.sz = 0 ∨ q.lv ≠ [] := by
 by_cases h0 : q.sz = 0
 ·exact .inl h0
 ·refine .inr fun h1 => ?_
  rw [und_nil h0 h1] at h; cases h
def badR (q : Pf) (k m : List UInt8) : Prop := (0 < q.fst ∧ frm q.lv k = 0) ∨ (q.fst + q.lv.length < q.sz ∧ frm q.lv m = q.lv.length)
instance (q : Pf) (k m : List UInt8) : Decidable (badR q k m) := by unfold badR; infer_instance
def chkR (r : Dg) (k m : List UInt8) (q : Pf) : List Lf × Int :=
 if lt m k = true then ([], 5) else if undB q r = true then (if badR q k m then ([], 17) else ((q.lv.take (frm q.lv m)).drop (frm q.lv k), 0)) else ([], 17)
section
variable {r : Dg} {k m : List UInt8} {q : Pf}
end
end Mk
end Go.Fw
end

section
/- Texts: their lengths; when two of them collide. -/
namespace Go.Fw
namespace Mk
def dg16 (x : List UInt8) : Dg := (Sha.sum x).take 16
theorem dg16_len (x : List UInt8) : (dg16 x).length = 16 := by unfold dg16; rw [List.length_take, Sha.sum_len]; rfl
def colB (t : Tx) : Bool := (List.range t.length).any fun i => (List.range i).any fun k => !decide (t.getD i [] = t.getD k []) && decide (dg16 (t.getD i []) = dg16 (t.getD k []))
def okC (q : Pf) : Prop := 0 ≤ q.sz ∧ q.sz ≤ 4096 ∧ 0 ≤ q.fst ∧ q.fst ≤ q.sz ∧ (q.lv.length : Int) ≤ q.sz - q.fst
instance (q : Pf) : Decidable (okC q) := by unfold okC; infer_instance
def txP (q : Pf) : Tx := if okC q then (rrR q.fst.toNat q.lv q.sd q.sz.toNat).2.1 else []
def txL (ls : List Lf) : Tx := (rrR 0 ls [] ls.length).2.1
def coll (ls : List Lf) (q : Pf) : Bool := colB (txL ls ++ txP q)
theorem inp2_len (tag : Int) {x y : List UInt8} (hx : x.length < 1048576) (hy : y.length < 1048576) : (Sha.inp tag [x, y]).length ≤ 3000000 := by
 have := Sha.inp_len tag [x, y] (two_lt hx hy)
 rw [show [x, y].length = 2 from rfl] at this
 omega
theorem rr_tx {first : Nat} {lv : List Lf} {sd : List Dg} (hx : ∀ x ∈ lv, x.1.length < 1048576 ∧ x.2.length < 1048576) (h16 : ∀ d ∈ sd, d.length = 16) : ∀ (f n a : Nat) (T : Tx) (u : Nat) (s : Bool), 1 ≤ n → n ≤ f → (∀ x ∈ T, x.length ≤ 3000000) → ∀ x ∈ (rr first lv sd f n a T u s).2.1, x.length ≤ 3000000
 | 0, n, a, T, u, s, h1, h2, _ => absurd h1 (by omega)
 | f + 1, n, a, T, u, s, h1, h2, hT => by
  by_cases ho : a + n ≤ first ∨ first + lv.length ≤ a
  ·by_cases h : sd.length ≤ u
   ·rw [rr_short ho h]; exact hT
   ·rw [rr_side ho h]; exact hT
  ·by_cases h : n = 1
   ·rw [rr_leaf ho h]
    intro x hm
    rcases List.mem_append.1 hm with hm | hm
    ·exact hT x hm
    ·rw [List.mem_singleton] at hm
     subst hm
     have := hx _ (getD_in (xs := lv) (k := a - first) (by omega))
     exact inp2_len 3 this.1 this.2
   ·have hp := half_pos n
    have hl := half_lt (n := n) (by omega)
    have b1 := rr_tx hx h16 (first := first) f (half n) a T u s hp (by omega) hT
    have d1 := (rr_bd h16 (lv := lv) (first := first) f (half n) a T u s hp (by omega)).1
    rw [rr_node ho (by omega) rfl rfl]
    generalize rr first lv sd f (half n) a T u s = r1 at b1 d1 ⊢
    have b2 := rr_tx hx h16 (first := first) f (n - half n) (a + half n) r1.2.1 r1.2.2.1 r1.2.2.2 (by omega) (by omega) b1
    have d2 := (rr_bd h16 (lv := lv) (first := first) f (n - half n) (a + half n) r1.2.1 r1.2.2.1 r1.2.2.2 (by omega) (by omega)).1
    generalize rr first lv sd f (n - half n) (a + half n) r1.2.1 r1.2.2.1 r1.2.2.2 = r2 at b2 d2 ⊢
    intro x hm
    rcases List.mem_append.1 hm with hm | hm
    ·exact b2 x hm
    ·rw [List.mem_singleton] at hm
     subst hm
     exact inp2_len 4 (by omega) (by omega)
theorem rrR_tx {first : Nat} {lv : List Lf} {sd : List Dg} {n : Nat} (hx : ∀ x ∈ lv, x.1.length < 1048576 ∧ x.2.length < 1048576) (h16 : ∀ d ∈ sd, d.length = 16) : (∀ x ∈ (rrR first lv sd n).2.1, x.length ≤ 3000000) ∧ (rrR first lv sd n).2.1.length ≤ 2 * n + 1 := by
 by_cases h : n = 0
 ·rw [rrR_0 _ _ _ h]
  refine ⟨fun x hm => ?_, by simp⟩
  rw [List.mem_singleton] at hm
  subst hm
  rw [rootT_0]
  have hi := Wi.int_len9 ((0 : Nat) : Int)
  have := Sha.inp_len 4 [Wi.int ((0 : Nat) : Int)] (fun p hp => by rw [List.mem_singleton] at hp; subst hp; omega)
  rw [show [Wi.int ((0 : Nat) : Int)].length = 1 from rfl] at this
  omega
 ·have b1 := rr_tx hx h16 (first := first) n n 0 [] 0 false (by omega) (Nat.le_refl _) (fun x hm => by cases hm)
  have b2 := rr_bd h16 (lv := lv) (first := first) n n 0 [] 0 false (by omega) (Nat.le_refl _)
  rw [rrR_n h rfl]
  generalize rr first lv sd n n 0 [] 0 false = r at b1 b2 ⊢
  rw [List.length_nil] at b2
  refine ⟨fun x hm => ?_, by dsimp only; rw [List.length_append, List.length_singleton]; omega⟩
  rcases List.mem_append.1 hm with hm | hm
  ·exact b1 x hm
  ·rw [List.mem_singleton] at hm
   subst hm
   rw [rootT_n h]
   have hi := Wi.int_len9 (n : Int)
   exact inp2_len 4 (by omega) (by omega)
theorem tx_bd {ls : List Lf} {q : Pf} (hl : ls.length ≤ 4096) (hx : ∀ x ∈ ls, x.1.length < 1048576 ∧ x.2.length < 1048576) (hy : ∀ x ∈ q.lv, x.1.length < 1048576 ∧ x.2.length < 1048576) (h16 : ∀ d ∈ q.sd, d.length = 16) : (∀ x ∈ txL ls ++ txP q, x.length ≤ 3000000) ∧ (txL ls).length ≤ 8193 ∧ (txP q).length ≤ 8193 := by
 have b1 := rrR_tx (first := 0) (lv := ls) (sd := []) (n := ls.length) hx (fun _ h => by cases h)
 have b2 : (∀ x ∈ txP q, x.length ≤ 3000000) ∧ (txP q).length ≤ 8193 := by
  unfold txP
  by_cases h : okC q
  ·rw [if_pos h]
   have b2 := rrR_tx (first := q.fst.toNat) (lv := q.lv) (sd := q.sd) (n := q.sz.toNat) hy h16
   obtain ⟨h1, h2, _⟩ := h
   exact ⟨b2.1, by omega⟩
  ·rw [if_neg h]; exact ⟨fun x hm => (List.not_mem_nil hm).elim, Nat.zero_le _⟩
 refine ⟨fun x hm => ?_, ?_, b2.2⟩
 ·rcases List.mem_append.1 hm with hm | hm
  ·exact b1.1 x hm
  ·exact b2.1 x hm
 ·have := b1.2; unfold txL; omega
section
variable {t : Tx} {i k : Nat}
def noC (t : Tx) (i : Nat) : Prop := ∀ j, j < i → ∀ k, k < j → ¬ (¬ t.getD j [] = t.getD k [] ∧ dg16 (t.getD j []) = dg16 (t.getD k []))
theorem col_t (hi : i < t.length) (hk : k < i) (h : ¬ t.getD i [] = t.getD k [] ∧ dg16 (t.getD i []) = dg16 (t.getD k [])) : colB t = true := by
 unfold colB
 refine List.any_eq_true.2 ⟨i, List.mem_range.2 hi, List.any_eq_true.2 ⟨k, List.mem_range.2 hk, ?_⟩⟩
 rw [decide_eq_false h.1, decide_eq_true h.2]; rfl
theorem col_f (h : noC t t.length) : colB t = false := by
 unfold colB
 refine List.any_eq_false.2 fun j hj => ?_
 intro h2
 obtain ⟨k, hk, h3⟩ := List.any_eq_true.1 h2
 rw [Bool.and_eq_true, Bool.not_eq_true', decide_eq_false_iff_not, decide_eq_true_eq] at h3
 exact h j (List.mem_range.1 hj) k (List.mem_range.1 hk) h3
theorem noC_of (h : colB t = false) : noC t t.length := fun j hj k hk h2 => by rw [col_t hj hk h2] at h; cases h
theorem noC_step (h : noC t i) (h2 : ∀ k, k < i → ¬ (¬ t.getD i [] = t.getD k [] ∧ dg16 (t.getD i []) = dg16 (t.getD k []))) : noC t (i + 1) := fun j hj k hk => by
 rcases Nat.lt_or_ge j i with h3 | h3
 ·exact h j h3 k hk
 ·obtain rfl : j = i := by omega
  exact h2 k hk
theorem dgs_get (hi : i < t.length) (hk : k < i + 1) : ((t.take (i + 1)).map dg16).getD k [] = dg16 (t.getD k []) := by
 rw [List.getD_eq_getElem?_getD, List.getElem?_map, List.getElem?_take, if_pos hk, List.getElem?_eq_getElem (by omega), List.getD_eq_getElem?_getD, List.getElem?_eq_getElem (by omega)]
 rfl
theorem dgs_16 (t : Tx) : ∀ d ∈ t.map dg16, d.length = 16 := fun d hd => by
 obtain ⟨x, _, rfl⟩ := List.mem_map.1 hd
 exact dg16_len x
end
end Mk
end Go.Fw
namespace Go.Fw
namespace Mk
end Mk
end Go.Fw
namespace Go.Fw
namespace Mk
theorem txP_t {fn zn : Nat} {ql : List Lf} {qd : List Dg} (h : okC ⟨fn, zn, ql, qd⟩) : txP ⟨fn, zn, ql, qd⟩ = (rrR fn ql qd zn).2.1 := by unfold txP; rw [if_pos h]; rfl
theorem txP_f {q : Pf} (h : ¬ okC q) : txP q = [] := by unfold txP; rw [if_neg h]
theorem dgs_next {t : Tx} {i : Nat} (h : i < t.length) : (t.take (i + 1)).map dg16 = (t.take i).map dg16 ++ [dg16 (t.getD i [])] := by
 rw [take_snoc [] h, List.map_append]; rfl
theorem dgs_len {t : Tx} {i : Nat} (h : i ≤ t.length) : ((t.take i).map dg16).length = i := by rw [List.length_map, List.length_take]; omega
theorem getD_inT {xs : Tx} {k : Nat} (h : k < xs.length) : xs.getD k [] ∈ xs := by rw [List.getD_eq_getElem?_getD, List.getElem?_eq_getElem h]; exact List.getElem_mem h
theorem lvs_len (l : List Int) : ∀ i, (lvs l i).1.length = i
 | 0 => rfl
 | i + 1 => by show ((lvs l i).1 ++ _).length = _; rw [List.length_append, lvs_len l i]; rfl
end Mk
end Go.Fw
end

section
/- A proof with one thing changed. -/
namespace Go.Fw
namespace Mk
def bK (q : Pf) (b : Int) : Nat := (Gu.arnd b (max (q.lv.length : Int) 1)).toNat
def bJ (q : Pf) (b : Int) : Nat := (Gu.arnd b (max (q.sd.length : Int) 1)).toNat
def one1 : Dg := 1 :: List.replicate 15 0
def flip (d : Dg) (b : Int) : Dg := d.set (Gu.arnd (b.tdiv 8) 16).toNat (d.getD (Gu.arnd (b.tdiv 8) 16).toNat 0 ^^^ 1)
def bent (q : Pf) (how b : Int) : Pf :=
 let h := Gu.arnd how 11
 if h = 0 then { q with fst := wr (wr (q.fst + Gu.arnd b 5) - 2) }
 else if h = 1 then { q with sz := wr (wr (q.sz + Gu.arnd b 5) - 2) }
 else if h = 2 then { q with sz := [b, 4096, 4097, -1].getD (Gu.arnd b 4).toNat 0 }
 else if h = 3 then { q with fst := b }
 else if h = 4 then (if 0 < q.lv.length then { q with lv := q.lv.set (bK q b) (keyB (Gu.arnd b 40), (q.lv.getD (bK q b) kv0).2) } else q)
 else if h = 5 then (if 0 < q.lv.length then { q with lv := q.lv.set (bK q b) ((q.lv.getD (bK q b) kv0).1, (q.lv.getD (bK q b) kv0).2 ++ [120]) } else q)
 else if h = 6 then (if 0 < q.lv.length then { q with lv := q.lv.take (bK q b) ++ q.lv.drop (bK q b + 1) } else q)
 else if h = 7 then { q with lv := q.lv ++ [(keyB (Gu.arnd b 40), [])] }
 else if h = 8 then (if 0 < q.sd.length then { q with sd := q.sd.set (bJ q b) (flip (q.sd.getD (bJ q b) []) b) } else q)
 else if h = 9 then (if 0 < q.sd.length then { q with sd := q.sd.take (bJ q b) ++ q.sd.drop (bJ q b + 1) } else q)
 else { q with sd := q.sd ++ [one1] }
def smP (q : Pf) (m b : Nat) : Prop := q.lv.length ≤ m ∧ q.sd.length ≤ m ∧ (∀ x ∈ q.lv, x.1.length ≤ b ∧ x.2.length ≤ b) ∧ ∀ d ∈ q.sd, d.length = 16
end Mk
end Go.Fw
namespace Go.Fw
namespace Mk
end Mk
end Go.Fw
end

section
/- Both directions: what is shown is accepted; what is accepted is true, or two texts collide. -/
namespace Go.Fw
namespace Mk
def cut (ls : List Lf) (st en : Nat) : List Lf := (ls.take en).drop st
theorem cut_len {ls : List Lf} {st en : Nat} (h2 : en ≤ ls.length) : (cut ls st en).length = en - st := by unfold cut; rw [List.length_drop, List.length_take]; omega
theorem cut_get {ls : List Lf} {st en i : Nat} (h : st + i < en) : (cut ls st en).getD i kv0 = ls.getD (st + i) kv0 := by
 unfold cut
 rw [List.getD_eq_getElem?_getD, List.getElem?_drop, List.getElem?_take, if_pos h, ← List.getD_eq_getElem?_getD]
theorem cut_mem {ls : List Lf} {st en : Nat} {x : Lf} (h : x ∈ cut ls st en) : x ∈ ls := List.mem_of_mem_take (List.mem_of_mem_drop h)
theorem cut_asc {ls : List Lf} {st en : Nat} (ha : Asc ls) (h2 : en ≤ ls.length) : Asc (cut ls st en) := fun i hi => by
 rw [cut_len h2] at hi
 rw [cut_get (by omega), cut_get (by omega), show st + (i + 1) = st + i + 1 by omega]
 exact ha (st + i) (by omega)
theorem cut_vE {ls : List Lf} {st en : Nat} (h : vE ls = 0) (h2 : en ≤ ls.length) : vE (cut ls st en) = 0 := by
 obtain ⟨ha, hl, hx⟩ := vE_asc h
 refine vE_0 ?_ (asc_all _ fun i hi => cut_asc ha h2 i hi)
 rintro (h3 | h3)
 ·rw [cut_len h2] at h3; omega
 ·obtain ⟨x, hm, hb⟩ := List.any_eq_true.1 h3
  have := hx x (cut_mem hm)
  unfold bigB at hb
  rw [Bool.or_eq_true, decide_eq_true_eq, decide_eq_true_eq] at hb
  omega
theorem und_shown {ls : List Lf} {st en : Nat} (h : vE ls = 0) (h1 : st ≤ en) (h2 : en ≤ ls.length) (h3 : ls.length = 0 ∨ st < en) : undB (shown ls st en) (rootE ls).1 = true := by
 obtain ⟨ha, hl, hx⟩ := vE_asc h
 have hcl := cut_len (ls := ls) (st := st) h2
 have hok : okP (shown ls st en) := by
  refine ⟨?_, ?_, ?_, ?_, ?_, cut_vE h h2⟩
  ·show (0 : Int) ≤ (ls.length : Int); omega
  ·show (ls.length : Int) ≤ 4096; omega
  ·show (0 : Int) ≤ (st : Int); omega
  ·show (st : Int) ≤ (ls.length : Int); omega
  ·show (st : Int) + ((cut ls st en).length : Int) ≤ (ls.length : Int); omega
 rw [rootE_n h]
 by_cases h0 : ls.length = 0
 ·rw [und_0 hok (by show (ls.length : Int) = 0; omega)]
  have e1 : (shown ls st en).sd = [] := by show (if ls.length = 0 then [] else _) = _; rw [if_pos h0]
  rw [e1, h0, rootD_0, rootD_0]
  simp
 ·have hl1 : ¬ (shown ls st en).lv = [] := fun h9 => by
   have : (cut ls st en).length = 0 := by rw [show cut ls st en = [] from h9]; rfl
   omega
  rw [und_n hok (by show ¬ (ls.length : Int) = 0; omega) hl1]
  have hs := con_sides ls st en h1 h2 ls.length ls 0 rfl (by omega) (by rw [List.drop_zero, List.take_length]) (by omega) []
  rw [List.append_nil] at hs
  have e1 : (shown ls st en).sd = sidesD st en ls 0 := by show (if ls.length = 0 then [] else _) = _; rw [if_neg h0]
  unfold conB
  rw [e1]
  have e2 : conD (shown ls st en).fst.toNat (shown ls st en).lv (shown ls st en).sz.toNat 0 (sidesD st en ls 0) = some (rowD ls, []) := hs
  rw [e2]
  exact decide_eq_true rfl
theorem sides_all {ls : List Lf} {en : Nat} : ∀ (f n a : Nat), 1 ≤ n → n ≤ f → a + n ≤ ls.length → a + n ≤ en → sidesD 0 en (sub ls a n) a = []
 | 0, n, a, h1, h2, _, _ => absurd h1 (by omega)
 | f + 1, n, a, h1, h2, h3, h4 => by
  by_cases h : n = 1
  ·subst h; exact sides_1' h3 (by omega)
  ·have hp := half_pos n
   have hl := half_lt (n := n) (by omega)
   rw [sides_s' (by omega) h3 (by omega), sides_all f (half n) a hp (by omega) (by omega) (by omega), sides_all f (n - half n) (a + half n) (by omega) (by omega) (by omega) (by omega)]
   rfl
theorem shown_all (ls : List Lf) : shown ls 0 ls.length = ⟨0, ls.length, ls, []⟩ := by
 unfold shown
 rw [List.drop_zero, List.take_length]
 by_cases h : ls.length = 0
 ·rw [if_pos h]; rfl
 ·rw [if_neg h]
  have := sides_all (ls := ls) (en := ls.length) ls.length ls.length 0 (by omega) (Nat.le_refl _) (by omega) (by omega)
  rw [sub_all] at this
  rw [this]; rfl
theorem und_whole {ls : List Lf} (h : vE ls = 0) : undB ⟨0, ls.length, ls, []⟩ (rootE ls).1 = true := by
 rw [← shown_all]; exact und_shown h (Nat.zero_le _) (Nat.le_refl _) (by omega)
theorem dg_inp (tag : Int) (ps : List (List UInt8)) : dg16 (Sha.inp tag ps) = Sha.ofD tag ps := by unfold dg16; rw [← Sha.ofD_ref]
def inj (X : Tx) : Prop := ∀ x ∈ X, ∀ y ∈ X, dg16 x = dg16 y → x = y
theorem inj_of {X : Tx} (h : colB X = false) : inj X := fun x hx y hy hd => by
 obtain ⟨i, hi, rfl⟩ := List.getElem_of_mem hx
 obtain ⟨j, hj, rfl⟩ := List.getElem_of_mem hy
 have e : ∀ (i : Nat) (h : i < X.length), X.getD i [] = X[i] := fun i h => by rw [List.getD_eq_getElem?_getD, List.getElem?_eq_getElem h]; rfl
 have hn := noC_of h
 by_cases h3 : X[i] = X[j]
 ·exact h3
 ·exfalso
  rcases Nat.lt_trichotomy i j with h4 | h4 | h4
  ·exact hn j hj i h4 ⟨by rw [e j hj, e i hi]; exact fun h5 => h3 h5.symm, by rw [e j hj, e i hi]; exact hd.symm⟩
  ·subst h4; exact h3 rfl
  ·exact hn i hi j h4 ⟨by rw [e j hj, e i hi]; exact h3, by rw [e j hj, e i hi]; exact hd⟩
theorem two4 {x y : List UInt8} (hx : x.length ≤ 400) (hy : y.length ≤ 400) : ∀ p ∈ [x, y], p.length ≤ 400 := fun p hp => by
 simp only [List.mem_cons, List.not_mem_nil, or_false] at hp
 rcases hp with rfl | rfl <;> assumption
theorem leafT_inj {x y : Lf} (hx : x.1.length ≤ 400 ∧ x.2.length ≤ 400) (hy : y.1.length ≤ 400 ∧ y.2.length ≤ 400) (h : leafT x = leafT y) : x = y := by
 have := (Sha.inp_inj 3 3 _ _ (two4 hx.1 hx.2) (two4 hy.1 hy.2) h).2
 simp only [List.cons.injEq, and_true] at this
 exact Prod.ext this.1 this.2
theorem nodeT_inj {a b c d : Dg} (ha : a.length = 16) (hb : b.length = 16) (hc : c.length = 16) (hd : d.length = 16) (h : nodeT a b = nodeT c d) : a = c ∧ b = d := by
 have := (Sha.inp_inj 4 4 _ _ (two4 (by omega) (by omega)) (two4 (by omega) (by omega)) h).2
 simp only [List.cons.injEq, and_true] at this
 exact this
theorem int_inj {m n : Nat} (hm : m < 9223372036854775808) (hn : n < 9223372036854775808) (h : Wi.int (m : Int) = Wi.int (n : Int)) : m = n := (Wi.int_pre m n hm hn [] [] (by rw [List.append_nil, List.append_nil]; exact h)).1
theorem rootT_inj {m n : Nat} (hm : m ≤ 4096) (hn : n ≤ 4096) {d e : Dg} (hd : d.length = 16) (he : e.length = 16) (h : rootT m d = rootT n e) : m = n ∧ (m ≠ 0 → d = e) := by
 have i0 := Wi.int_len9 ((0 : Nat) : Int)
 have im := Wi.int_len9 (m : Int)
 have in_ := Wi.int_len9 (n : Int)
 have one : ∀ p ∈ [Wi.int ((0 : Nat) : Int)], p.length ≤ 400 := fun p hp => by rw [List.mem_singleton] at hp; subst hp; omega
 by_cases h1 : m = 0
 ·by_cases h2 : n = 0
  ·exact ⟨by omega, fun h => absurd h1 h⟩
  ·subst h1
   rw [rootT_0, rootT_n h2] at h
   have := (Sha.inp_inj 4 4 _ _ one (two4 (by omega) (by omega)) h).2
   simp at this
 ·by_cases h2 : n = 0
  ·subst h2
   rw [rootT_0, rootT_n h1] at h
   have := (Sha.inp_inj 4 4 _ _ (two4 (by omega) (by omega)) one h).2
   simp at this
  ·rw [rootT_n h1, rootT_n h2] at h
   have := (Sha.inp_inj 4 4 _ _ (two4 (by omega) (by omega)) (two4 (by omega) (by omega)) h).2
   simp only [List.cons.injEq, and_true] at this
   exact ⟨int_inj (by omega) (by omega) this.1, fun _ => this.2⟩
theorem rr_pre {first : Nat} {lv : List Lf} {sd : List Dg} : ∀ (f n a : Nat) (T : Tx) (u : Nat) (s : Bool), ∀ x ∈ T, x ∈ (rr first lv sd f n a T u s).2.1
 | 0, n, a, T, u, s, x, hx => hx
 | f + 1, n, a, T, u, s, x, hx => by
  by_cases ho : a + n ≤ first ∨ first + lv.length ≤ a
  ·by_cases h : sd.length ≤ u
   ·rw [rr_short ho h]; exact hx
   ·rw [rr_side ho h]; exact hx
  ·by_cases h : n ≤ 1
   ·rw [rr, if_neg ho, if_pos h]; exact List.mem_append_left _ hx
   ·rw [rr_node ho (by omega) rfl rfl]
    exact List.mem_append_left _ (rr_pre f _ _ _ _ _ x (rr_pre f _ _ _ _ _ x hx))
theorem desc {ls : List Lf} {first : Nat} {lv : List Lf} {sd : List Dg} {X : Tx} (hX : inj X) (hx : ∀ x ∈ ls, x.1.length ≤ 400 ∧ x.2.length ≤ 400) (hy : ∀ x ∈ lv, x.1.length ≤ 400 ∧ x.2.length ≤ 400) (h16 : ∀ d ∈ sd, d.length = 16) :
  ∀ (f n a : Nat) (T1 T2 : Tx) (u1 u2 : Nat) (s1 s2 : Bool), 1 ≤ n → n ≤ f → a + n ≤ ls.length → (∀ x ∈ (rr 0 ls [] f n a T1 u1 s1).2.1, x ∈ X) → (∀ x ∈ (rr first lv sd f n a T2 u2 s2).2.1, x ∈ X) →
  (rr first lv sd f n a T2 u2 s2).1 = rowD (sub ls a n) → ∀ i, a ≤ i → i < a + n → first ≤ i → i < first + lv.length → lv.getD (i - first) kv0 = ls.getD i kv0
 | 0, n, a, T1, T2, u1, u2, s1, s2, h1, h2, _, _, _, _, _, _, _, _, _ => absurd h1 (by omega)
 | f + 1, n, a, T1, T2, u1, u2, s1, s2, h1, h2, h3, hm1, hm2, hd, i, hi1, hi2, hi3, hi4 => by
  have ho1 : ¬ (a + n ≤ 0 ∨ 0 + ls.length ≤ a) := by omega
  have ho : ¬ (a + n ≤ first ∨ first + lv.length ≤ a) := by omega
  by_cases h : n = 1
  ·subst h
   rw [rr_leaf ho1 rfl] at hm1
   rw [rr_leaf ho rfl] at hm2 hd
   rw [rowD_sub1 h3] at hd
   obtain rfl : i = a := by omega
   have m1 := hm1 (leafT (ls.getD (i - 0) kv0)) (List.mem_append_right _ (List.mem_singleton.2 rfl))
   have m2 := hm2 (leafT (lv.getD (i - first) kv0)) (List.mem_append_right _ (List.mem_singleton.2 rfl))
   rw [Nat.sub_zero] at m1
   have e : dg16 (leafT (lv.getD (i - first) kv0)) = dg16 (leafT (ls.getD i kv0)) := by
    unfold leafT; rw [dg_inp, dg_inp]; exact hd
   exact leafT_inj (hy _ (getD_in (by omega))) (hx _ (getD_in (by omega))) (hX _ m2 _ m1 e)
  ·have hp := half_pos n
   have hl := half_lt (n := n) (by omega)
   have f1 := rr_full (ls := ls) (sd := []) f (half n) a T1 u1 s1 hp (by omega) (by omega)
   have b1 := rr_bd h16 (lv := lv) (first := first) f (half n) a T2 u2 s2 hp (by omega)
   rw [rr_node ho1 (by omega) rfl rfl] at hm1
   rw [rr_node ho (by omega) rfl rfl] at hm2 hd
   have d1 := desc (first := first) hX hx hy h16 f (half n) a T1 T2 u1 u2 s1 s2 hp (by omega) (by omega)
   generalize rr 0 ls [] f (half n) a T1 u1 s1 = p1 at f1 hm1 d1
   generalize rr first lv sd f (half n) a T2 u2 s2 = q1 at b1 hm2 hd d1
   have f2 := rr_full (ls := ls) (sd := []) f (n - half n) (a + half n) p1.2.1 p1.2.2.1 p1.2.2.2 (by omega) (by omega) (by omega)
   have b2 := rr_bd h16 (lv := lv) (first := first) f (n - half n) (a + half n) q1.2.1 q1.2.2.1 q1.2.2.2 (by omega) (by omega)
   have d2 := desc (first := first) hX hx hy h16 f (n - half n) (a + half n) p1.2.1 q1.2.1 p1.2.2.1 q1.2.2.1 p1.2.2.2 q1.2.2.2 (by omega) (by omega) (by omega)
   have k1 : ∀ x ∈ p1.2.1, x ∈ (rr 0 ls [] f (n - half n) (a + half n) p1.2.1 p1.2.2.1 p1.2.2.2).2.1 := rr_pre _ _ _ _ _ _
   have k2 : ∀ x ∈ q1.2.1, x ∈ (rr first lv sd f (n - half n) (a + half n) q1.2.1 q1.2.2.1 q1.2.2.2).2.1 := rr_pre _ _ _ _ _ _
   generalize rr 0 ls [] f (n - half n) (a + half n) p1.2.1 p1.2.2.1 p1.2.2.2 = p2 at f2 hm1 d2 k1
   generalize rr first lv sd f (n - half n) (a + half n) q1.2.1 q1.2.2.1 q1.2.2.2 = q2 at b2 hm2 hd d2 k2
   dsimp only at hm1 hm2 hd
   rw [rowD_sub h3 (by omega)] at hd
   have m1 := hm1 (nodeT p1.1 p2.1) (List.mem_append_right _ (List.mem_singleton.2 rfl))
   have m2 := hm2 (nodeT q1.1 q2.1) (List.mem_append_right _ (List.mem_singleton.2 rfl))
   have e : dg16 (nodeT q1.1 q2.1) = dg16 (nodeT p1.1 p2.1) := by
    unfold nodeT; rw [dg_inp, dg_inp, f1.1, f2.1]; exact hd
   have r1 := rowD_16 (ls := sub ls a (half n)) (by rw [sub_len (by omega)]; omega)
   have r2 := rowD_16 (ls := sub ls (a + half n) (n - half n)) (by rw [sub_len (by omega)]; omega)
   obtain ⟨g1, g2⟩ := nodeT_inj b1.1 b2.1 (by rw [f1.1]; exact r1) (by rw [f2.1]; exact r2) (hX _ m2 _ m1 e)
   rcases Nat.lt_or_ge i (a + half n) with h5 | h5
   ·exact d1 (fun x hx => hm1 x (List.mem_append_left _ (k1 x hx))) (fun x hx => hm2 x (List.mem_append_left _ (k2 x hx))) (g1.trans f1.1) i hi1 h5 hi3 hi4
   ·exact d2 (fun x hx => hm1 x (List.mem_append_left _ hx)) (fun x hx => hm2 x (List.mem_append_left _ hx)) (g2.trans f2.1) i h5 (by omega) hi3 hi4
theorem und_sound {ls : List Lf} {q : Pf} (h : vE ls = 0) (hx : ∀ x ∈ ls, x.1.length ≤ 400 ∧ x.2.length ≤ 400) (hy : ∀ x ∈ q.lv, x.1.length ≤ 400 ∧ x.2.length ≤ 400) (h16 : ∀ d ∈ q.sd, d.length = 16) (hu : undB q (rootE ls).1 = true) (hc : coll ls q = false) :
  q.sz = ls.length ∧ ∃ st en : Nat, st ≤ en ∧ en ≤ ls.length ∧ q.fst = st ∧ q.lv = cut ls st en ∧ q.fst + q.lv.length = en := by
 obtain ⟨ha, hl, _⟩ := vE_asc h
 have hok := und_ok hu
 have hlv := und_lv hu
 have hX := inj_of hc
 obtain ⟨qf, qs, ql, qd⟩ := q
 obtain ⟨o1, o2, o3, o4, o5, o6⟩ := hok
 dsimp only at o1 o2 o3 o4 o5 o6 hlv hy h16 ⊢
 obtain ⟨fn, rfl⟩ : ∃ fn : Nat, qf = fn := ⟨qf.toNat, by omega⟩
 obtain ⟨zn, rfl⟩ : ∃ zn : Nat, qs = zn := ⟨qs.toNat, by omega⟩
 have hokc : okC ⟨fn, zn, ql, qd⟩ := ⟨o1, o2, o3, o4, by dsimp only; omega⟩
 rw [txP_t hokc] at hX
 have hp2 : ∃ d : Dg, d.length = 16 ∧ rootT zn d ∈ (rrR fn ql qd zn).2.1 ∧ rootD zn d = (rootE ls).1 ∧ (zn ≠ 0 → d = (rr fn ql qd zn zn 0 [] 0 false).1 ∧ ∀ x ∈ (rr fn ql qd zn zn 0 [] 0 false).2.1, x ∈ (rrR fn ql qd zn).2.1) := by
  by_cases h0 : zn = 0
  ·subst h0
   rw [und_0 ⟨o1, o2, o3, o4, o5, o6⟩ rfl, Bool.and_eq_true, decide_eq_true_eq, decide_eq_true_eq] at hu
   exact ⟨zD, zD_16, by rw [rrR_0 _ _ _ rfl]; exact List.mem_singleton.2 rfl, hu.2, fun h => absurd rfl h⟩
  ·have hnl : ¬ ql = [] := by
    rcases hlv with h9 | h9
    ·omega
    ·exact h9
   rw [und_n ⟨o1, o2, o3, o4, o5, o6⟩ (by dsimp only; omega) hnl, ← con_rr (by dsimp only; omega) rfl, Bool.and_eq_true, decide_eq_true_eq] at hu
   have b := rr_bd h16 (lv := ql) (first := fn) zn zn 0 [] 0 false (by omega) (Nat.le_refl _)
   refine ⟨_, b.1, ?_, hu.2, fun _ => ⟨rfl, ?_⟩⟩
   ·rw [rrR_n h0 rfl]; exact List.mem_append_right _ (List.mem_singleton.2 rfl)
   ·rw [rrR_n h0 rfl]; exact fun x hx => List.mem_append_left _ hx
 obtain ⟨d, hd16, hdm, hdr, hdn⟩ := hp2
 have hp1 : ∃ e : Dg, e.length = 16 ∧ rootT ls.length e ∈ txL ls ∧ rootD ls.length e = (rootE ls).1 ∧ (ls.length ≠ 0 → e = rowD ls ∧ ∀ x ∈ (rr 0 ls [] ls.length ls.length 0 [] 0 false).2.1, x ∈ txL ls) := by
  rw [rootE_n h]
  by_cases h0 : ls.length = 0
  ·refine ⟨zD, zD_16, ?_, ?_, fun h => absurd h0 h⟩
   ·unfold txL; rw [rrR_0 _ _ _ h0, h0]; exact List.mem_singleton.2 rfl
   ·rw [h0, rootD_0, rootD_0]
  ·have f1 := (rr_full (ls := ls) (sd := []) ls.length ls.length 0 [] 0 false (by omega) (Nat.le_refl _) (by omega)).1
   rw [sub_all] at f1
   refine ⟨rowD ls, rowD_16 (by omega), ?_, rfl, fun _ => ⟨rfl, ?_⟩⟩
   ·unfold txL; rw [rrR_n h0 rfl, f1]; exact List.mem_append_right _ (List.mem_singleton.2 rfl)
   ·unfold txL; rw [rrR_n h0 rfl]; exact fun x hx => List.mem_append_left _ hx
 obtain ⟨e, he16, hem, her, hen⟩ := hp1
 have hdg : ∀ (n : Nat) (d : Dg), dg16 (rootT n d) = rootD n d := fun n d => by
  unfold rootT rootD
  split
  ·rw [dg_inp]
  ·rw [dg_inp]
 have htt := hX _ (List.mem_append_right _ hdm) _ (List.mem_append_left _ hem) (by rw [hdg, hdg, hdr, her])
 obtain ⟨hz, hde⟩ := rootT_inj (by omega) (by omega) hd16 he16 htt
 subst hz
 refine ⟨rfl, fn, fn + ql.length, by omega, by omega, rfl, ?_, by omega⟩
 refine List.ext_getElem? fun i => ?_
 have hcl := cut_len (ls := ls) (st := fn) (en := fn + ql.length) (by omega)
 rcases Nat.lt_or_ge i ql.length with h9 | h9
 ·have h0 : ls.length ≠ 0 := by omega
  obtain ⟨g1, g2⟩ := hdn h0
  obtain ⟨g3, g4⟩ := hen h0
  have := desc (first := fn) hX hx hy h16 ls.length ls.length 0 [] [] 0 0 false false (by omega) (Nat.le_refl _) (by omega) (fun x hx => List.mem_append_left _ (g4 x hx)) (fun x hx => List.mem_append_right _ (g2 x hx)) (by rw [sub_all, ← g1, hde h0, g3]) (fn + i) (Nat.zero_le _) (by omega) (by omega) (by omega)
  rw [Nat.add_sub_cancel_left, ← cut_get (en := fn + ql.length) (by omega)] at this
  rw [kget kv0 h9, this, kget kv0 (by omega)]
 ·rw [List.getElem?_eq_none h9, List.getElem?_eq_none (by omega)]
def rightB (ls : List Lf) (k : List UInt8) (v : List UInt8) (b : Bool) : Bool := if fnd ls k = true then (b && decide (v = (ls.getD (frm ls k) kv0).2)) else !b
theorem root_sound {ls lt' : List Lf} (h : vE ls = 0) (h' : vE lt' = 0) (hx : ∀ x ∈ ls, x.1.length ≤ 400 ∧ x.2.length ≤ 400) (hy : ∀ x ∈ lt', x.1.length ≤ 400 ∧ x.2.length ≤ 400) (he : (rootE ls).1 = (rootE lt').1) (hc : coll ls ⟨0, lt'.length, lt', []⟩ = false) : ls = lt' := by
 obtain ⟨hz, st, en, h1, h2, h3, h4, h5⟩ := und_sound (q := ⟨0, lt'.length, lt', []⟩) h hx hy (fun _ h => by cases h) (by rw [he]; exact und_whole h') hc
 dsimp only at hz h3 h4 h5
 have e1 : st = 0 := by omega
 have e2 : en = ls.length := by omega
 rw [h4, e1, e2]
 unfold cut
 rw [List.drop_zero, List.take_length]
end Mk
end Go.Fw
end
