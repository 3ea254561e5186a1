/- A text of a proof over this seat: walks over the program's functions and the plain laws that they need. -/
import Derived.Test.YtdojfnigffeblaaDoorFwA
import Derived.Test.YtdojfnigffeblaaDoorFwD
import Derived.Test.YtdojfnigffeblaaDoorGuA
import Derived.Test.YtdojfnigffeblaaDoorShW
import Derived.Lib.Bytealg
set_option linter.all false
section
/- Keys in their order; rows of leaves, in plain words. -/
namespace Go.Fw
namespace Mk
abbrev Lf := List UInt8 × List UInt8
def lt (a b : List UInt8) : Bool := Op.bytesLess a b
theorem lt_nil (a : List UInt8) : lt a [] = false := by cases a <;> rfl
theorem lt_cons (a b : UInt8) (x y : List UInt8) : lt (a :: x) (b :: y) = (decide (a < b) || (a == b && lt x y)) := rfl
theorem lt_irr : ∀ a : List UInt8, lt a a = false
 | [] => rfl
 | a :: x => by
  rw [lt_cons, lt_irr x]
  have : ¬ a < a := UInt8.lt_irrefl a
  simp [this]
theorem lt_asy : ∀ {a b : List UInt8}, lt a b = true → lt b a = false
 | _, [], h => by rw [lt_nil] at h; cases h
 | [], b :: y, _ => lt_nil _
 | a :: x, b :: y, h => by
  rw [lt_cons] at h ⊢
  simp only [Bool.or_eq_true, decide_eq_true_eq, Bool.and_eq_true, beq_iff_eq] at h
  rw [Bool.or_eq_false_iff, decide_eq_false_iff_not]
  rcases h with h | ⟨rfl, h⟩
  ·refine ⟨fun h2 => UInt8.lt_irrefl _ (UInt8.lt_trans h h2), ?_⟩
   have : b ≠ a := fun e => by subst e; exact UInt8.lt_irrefl _ h
   simp [this]
  ·exact ⟨UInt8.lt_irrefl _, by simp [lt_asy h]⟩
theorem lt_con : ∀ {a b : List UInt8}, lt a b = false → lt b a = false → a = b
 | [], [], _, _ => rfl
 | [], b :: y, h, _ => by cases h
 | a :: x, [], _, h => by cases h
 | a :: x, b :: y, h1, h2 => by
  rw [lt_cons] at h1 h2
  simp only [Bool.or_eq_false_iff, decide_eq_false_iff_not, UInt8.not_lt] at h1 h2
  have e : a = b := UInt8.le_antisymm h2.1 h1.1
  subst e
  simp only [beq_self_eq_true, Bool.true_and] at h1 h2
  rw [lt_con h1.2 h2.2]
theorem lt_tr : ∀ {a b c : List UInt8}, lt a b = true → lt b c = true → lt a c = true
 | _, [], _, h, _ => by rw [lt_nil] at h; cases h
 | _, _ :: _, [], _, h => by rw [lt_nil] at h; cases h
 | [], _ :: _, _ :: _, _, _ => rfl
 | a :: x, b :: y, c :: z, h1, h2 => by
  rw [lt_cons] at h1 h2 ⊢
  simp only [Bool.or_eq_true, decide_eq_true_eq, Bool.and_eq_true, beq_iff_eq] at h1 h2 ⊢
  rcases h1 with h1 | ⟨rfl, h1⟩
  ·rcases h2 with h2 | ⟨rfl, _⟩
   ·exact .inl (UInt8.lt_trans h1 h2)
   ·exact .inl h1
  ·rcases h2 with h2 | ⟨rfl, h2⟩
   ·exact .inl h2
   ·exact .inr ⟨rfl, lt_tr h1 h2⟩
theorem lt_le {a b c : List UInt8} (h1 : lt a b = true) (h2 : lt c b = false) : lt a c = true := by
 cases h : lt a c with
 | true => rfl
 | false =>
  cases h3 : lt c a with
  | true => exact absurd (lt_tr h3 h1) (by rw [h2]; decide)
  | false => have := lt_con h h3; subst this; exact absurd h1 (by rw [h2]; decide)
theorem cmp_lt : ∀ (a b : List UInt8), Lib.compareBytes a b = if lt a b then -1 else if a = b then 0 else 1
 | [], [] => rfl
 | [], _ :: _ => rfl
 | _ :: _, [] => rfl
 | a :: x, b :: y => by
  rw [Lib.compareBytes, cmp_lt x y, lt_cons]
  by_cases h1 : a < b
  ·simp [h1]
  ·by_cases h2 : b < a
   ·have hne : a ≠ b := fun e => by subst e; exact UInt8.lt_irrefl _ h2
    simp [h1, h2, hne]
   ·have e : a = b := UInt8.le_antisymm (UInt8.not_lt.1 h2) (UInt8.not_lt.1 h1)
    subst e
    simp [h1]
end Mk
end Go.Fw
end

section
/- Trees of rows: digests, sides, and what is made of them. -/
namespace Go.Fw
namespace Mk
def half (n : Nat) : Nat := 2 ^ Nat.log2 (n - 1)
theorem half_pos (n : Nat) : 1 ≤ half n := Nat.one_le_two_pow
theorem half_lt {n : Nat} (h : 2 ≤ n) : half n < n := by
 have := Nat.log2_self_le (n := n - 1) omQ
 unfold half; omega
theorem half_eq {n j : Nat} (h1 : 2 ^ j < n) (h2 : ¬ 2 * 2 ^ j < n) : half n = 2 ^ j := by
 unfold half
 congr 1
 refine (Nat.log2_eq_iff omQ).2 ⟨by omega, ?_⟩
 rw [Nat.pow_succ]; omega
abbrev Dg := List UInt8
def leafD (x : Lf) : Dg := Sha.ofD 3 [x.1, x.2]
def nodeD (a b : Dg) : Dg := Sha.ofD 4 [a, b]
def rootD (n : Nat) (d : Dg) : Dg := if n = 0 then Sha.ofD 4 [Wi.int 0] else Sha.ofD 4 [Wi.int n, d]
theorem leafD_16 (x : Lf) : (leafD x).length = 16 := Sha.ofD_len _ _
theorem nodeD_16 (a b : Dg) : (nodeD a b).length = 16 := Sha.ofD_len _ _
theorem rootD_16 (n : Nat) (d : Dg) : (rootD n d).length = 16 := by unfold rootD; split <;> exact Sha.ofD_len _ _
def rw_ : Nat → List Lf → Dg
 | 0, _ => []
 | f + 1, ls => if ls.length ≤ 1 then leafD (ls.getD 0 kv0) else nodeD (rw_ f (ls.take (half ls.length))) (rw_ f (ls.drop (half ls.length)))
def rowD (ls : List Lf) : Dg := rw_ ls.length ls
theorem rw_fuel : ∀ (f g : Nat) (ls : List Lf), 1 ≤ ls.length → ls.length ≤ f → ls.length ≤ g → rw_ f ls = rw_ g ls
 | 0, _, ls, h, h1, _ => absurd h omQ
 | _ + 1, 0, ls, h, _, h2 => absurd h omQ
 | f + 1, g + 1, ls, h, h1, h2 => by
  rw [rw_, rw_]
  split
  ·rfl
  ·have hl := half_lt (n := ls.length) omQ
   have hp := half_pos ls.length
   rw [rw_fuel f g (ls.take _) (by rw [List.length_take]; omega) (by rw [List.length_take]; omega) (by rw [List.length_take]; omega), rw_fuel f g (ls.drop _) (by rw [List.length_drop]; omega) (by rw [List.length_drop]; omega) (by rw [List.length_drop]; omega)]
theorem rowD_1 {ls : List Lf} (h : ls.length = 1) : rowD ls = leafD (ls.getD 0 kv0) := by
 unfold rowD; rw [h, rw_, if_pos omQ]
theorem rowD_s {ls : List Lf} (h : 2 ≤ ls.length) : rowD ls = nodeD (rowD (ls.take (half ls.length))) (rowD (ls.drop (half ls.length))) := by
 have hl := half_lt h
 have hp := half_pos ls.length
 have e : rw_ ls.length ls = rw_ (ls.length - 1 + 1) ls := by rw [show ls.length - 1 + 1 = ls.length by omega]
 unfold rowD
 rw [e, rw_, if_neg omQ, rw_fuel (ls.length - 1) (ls.take (half ls.length)).length _ (by rw [List.length_take]; omega) (by rw [List.length_take]; omega) (Nat.le_refl _), rw_fuel (ls.length - 1) (ls.drop (half ls.length)).length _ (by rw [List.length_drop]; omega) (by rw [List.length_drop]; omega) (Nat.le_refl _)]
theorem rowD_16 {ls : List Lf} (h : 1 ≤ ls.length) : (rowD ls).length = 16 := by
 by_cases h1 : ls.length = 1
 ·rw [rowD_1 h1]; exact leafD_16 _
 ·rw [rowD_s omQ]; exact nodeD_16 _ _
def sd_ (first en : Nat) : Nat → List Lf → Nat → List Dg
 | 0, _, _ => []
 | f + 1, ls, a => if a + ls.length ≤ first ∨ en ≤ a then [rowD ls] else if ls.length ≤ 1 then [] else sd_ first en f (ls.take (half ls.length)) a ++ sd_ first en f (ls.drop (half ls.length)) (a + half ls.length)
def sidesD (first en : Nat) (ls : List Lf) (a : Nat) : List Dg := sd_ first en ls.length ls a
theorem sd_fuel (first en : Nat) : ∀ (f g : Nat) (ls : List Lf) (a : Nat), 1 ≤ ls.length → ls.length ≤ f → ls.length ≤ g → sd_ first en f ls a = sd_ first en g ls a
 | 0, _, ls, a, h, h1, _ => absurd h omQ
 | _ + 1, 0, ls, a, h, _, h2 => absurd h omQ
 | f + 1, g + 1, ls, a, h, h1, h2 => by
  rw [sd_, sd_]
  split
  ·rfl
  ·split
   ·rfl
   ·have hl := half_lt (n := ls.length) omQ
    have hp := half_pos ls.length
    rw [sd_fuel first en f g (ls.take _) _ (by rw [List.length_take]; omega) (by rw [List.length_take]; omega) (by rw [List.length_take]; omega), sd_fuel first en f g (ls.drop _) _ (by rw [List.length_drop]; omega) (by rw [List.length_drop]; omega) (by rw [List.length_drop]; omega)]
theorem sides_out {first en : Nat} {ls : List Lf} {a : Nat} (h : 1 ≤ ls.length) (ho : a + ls.length ≤ first ∨ en ≤ a) : sidesD first en ls a = [rowD ls] := by
 unfold sidesD
 rw [show sd_ first en ls.length ls a = sd_ first en (ls.length - 1 + 1) ls a by rw [show ls.length - 1 + 1 = ls.length by omega], sd_, if_pos ho]
theorem sides_1 {first en : Nat} {ls : List Lf} {a : Nat} (h : ls.length = 1) (ho : ¬ (a + ls.length ≤ first ∨ en ≤ a)) : sidesD first en ls a = [] := by
 unfold sidesD
 rw [show sd_ first en ls.length ls a = sd_ first en (0 + 1) ls a by rw [h], sd_, if_neg ho, if_pos omQ]
theorem sides_s {first en : Nat} {ls : List Lf} {a : Nat} (h : 2 ≤ ls.length) (ho : ¬ (a + ls.length ≤ first ∨ en ≤ a)) : sidesD first en ls a = sidesD first en (ls.take (half ls.length)) a ++ sidesD first en (ls.drop (half ls.length)) (a + half ls.length) := by
 have hl := half_lt h
 have hp := half_pos ls.length
 unfold sidesD
 rw [show sd_ first en ls.length ls a = sd_ first en (ls.length - 1 + 1) ls a by rw [show ls.length - 1 + 1 = ls.length by omega], sd_, if_neg ho, if_neg omQ, sd_fuel first en (ls.length - 1) (ls.take (half ls.length)).length _ _ (by rw [List.length_take]; omega) (by rw [List.length_take]; omega) (Nat.le_refl _), sd_fuel first en (ls.length - 1) (ls.drop (half ls.length)).length _ _ (by rw [List.length_drop]; omega) (by rw [List.length_drop]; omega) (Nat.le_refl _)]
def cn_ (first : Nat) (lv : List Lf) : Nat → Nat → Nat → List Dg → Option (Dg × List Dg)
 | 0, _, _, _ => none
 | f + 1, n, a, sd =>
  if a + n ≤ first ∨ first + lv.length ≤ a then
   match sd with
   | [] => none
   | d :: t => some (d, t)
  else if n ≤ 1 then some (leafD (lv.getD (a - first) kv0), sd)
  else match cn_ first lv f (half n) a sd with
   | none => none
   | some (x, s1) => match cn_ first lv f (n - half n) (a + half n) s1 with
    | none => none
    | some (y, s2) => some (nodeD x y, s2)
theorem cn_s (first : Nat) (lv : List Lf) (f n a : Nat) (sd : List Dg) : cn_ first lv (f + 1) n a sd =
  (if a + n ≤ first ∨ first + lv.length ≤ a then
   match sd with
   | [] => none
   | d :: t => some (d, t)
  else if n ≤ 1 then some (leafD (lv.getD (a - first) kv0), sd)
  else match cn_ first lv f (half n) a sd with
   | none => none
   | some (x, s1) => match cn_ first lv f (n - half n) (a + half n) s1 with
    | none => none
    | some (y, s2) => some (nodeD x y, s2)) := rfl
def conD (first : Nat) (lv : List Lf) (n a : Nat) (sd : List Dg) : Option (Dg × List Dg) := cn_ first lv n n a sd
theorem cn_fuel (first : Nat) (lv : List Lf) : ∀ (f g n a : Nat) (sd : List Dg), 1 ≤ n → n ≤ f → n ≤ g → cn_ first lv f n a sd = cn_ first lv g n a sd
 | 0, _, n, a, sd, h, h1, _ => absurd h omQ
 | _ + 1, 0, n, a, sd, h, _, h2 => absurd h omQ
 | f + 1, g + 1, n, a, sd, h, h1, h2 => by
  rw [cn_s, cn_s]
  split
  ·rfl
  ·split
   ·rfl
   ·have hl := half_lt (n := n) omQ
    have hp := half_pos n
    rw [cn_fuel first lv f g (half n) a sd hp omQ omQ]
    cases cn_ first lv g (half n) a sd with
    | none => rfl
    | some p =>
     obtain ⟨x, s1⟩ := p
     simp only
     rw [cn_fuel first lv f g (n - half n) (a + half n) s1 omQ omQ omQ]
section
variable {first : Nat} {lv : List Lf} {n a : Nat} {sd : List Dg}
theorem con_out (h : 1 ≤ n) (ho : a + n ≤ first ∨ first + lv.length ≤ a) : conD first lv n a sd = match sd with | [] => none | d :: t => some (d, t) := by
 unfold conD
 rw [show cn_ first lv n n a sd = cn_ first lv (n - 1 + 1) n a sd by rw [show n - 1 + 1 = n by omega], cn_s, if_pos ho]
theorem con_1 (h : n = 1) (ho : ¬ (a + n ≤ first ∨ first + lv.length ≤ a)) : conD first lv n a sd = some (leafD (lv.getD (a - first) kv0), sd) := by
 unfold conD
 rw [show cn_ first lv n n a sd = cn_ first lv (0 + 1) n a sd by rw [h], cn_s, if_neg ho, if_pos omQ]
theorem con_s (h : 2 ≤ n) (ho : ¬ (a + n ≤ first ∨ first + lv.length ≤ a)) : conD first lv n a sd = match conD first lv (half n) a sd with
  | none => none
  | some (x, s1) => match conD first lv (n - half n) (a + half n) s1 with
   | none => none
   | some (y, s2) => some (nodeD x y, s2) := by
 have hl := half_lt h
 have hp := half_pos n
 unfold conD
 rw [show cn_ first lv n n a sd = cn_ first lv (n - 1 + 1) n a sd by rw [show n - 1 + 1 = n by omega], cn_s, if_neg ho, if_neg omQ, cn_fuel first lv (n - 1) (half n) _ _ _ hp omQ (Nat.le_refl _)]
 cases cn_ first lv (half n) (half n) a sd with
 | none => rfl
 | some p =>
  obtain ⟨x, s1⟩ := p
  simp only
  rw [cn_fuel first lv (n - 1) (n - half n) _ _ _ omQ omQ (Nat.le_refl _)]
end
theorem con_sides (all : List Lf) (first en : Nat) (hfe : first ≤ en) (hen : en ≤ all.length) : ∀ (k : Nat) (ls : List Lf) (a : Nat), ls.length = k → 1 ≤ ls.length → ls = (all.drop a).take ls.length → a + ls.length ≤ all.length → ∀ t, conD first ((all.take en).drop first) ls.length a (sidesD first en ls a ++ t) = some (rowD ls, t) := by
 intro k
 have hll : ((all.take en).drop first).length = en - first := by rw [List.length_drop, List.length_take]; omega
 induction k using Nat.strongRecOn with
 | ind k ih =>
  intro ls a hk h1 hls ha t
  by_cases ho : a + ls.length ≤ first ∨ en ≤ a
  ·rw [con_out h1 (by rw [hll]; omega), sides_out h1 ho]; rfl
  ·have ho' : ¬ (a + ls.length ≤ first ∨ first + ((all.take en).drop first).length ≤ a) := by rw [hll]; omega
   by_cases h2 : ls.length = 1
   ·rw [con_1 h2 ho', sides_1 h2 ho, rowD_1 h2]
    congr 3
    have e1 : ((all.take en).drop first).getD (a - first) kv0 = all.getD a kv0 := by
     rw [List.getD_eq_getElem?_getD, List.getD_eq_getElem?_getD, List.getElem?_drop, List.getElem?_take, if_pos omQ, show first + (a - first) = a by omega]
    have e2 : ls.getD 0 kv0 = all.getD a kv0 := by
     rw [hls, List.getD_eq_getElem?_getD, List.getD_eq_getElem?_getD, List.getElem?_take, if_pos omQ, List.getElem?_drop, Nat.add_zero]
    rw [e1, e2]
   ·have hlt := half_lt (n := ls.length) omQ
    have hp := half_pos ls.length
    have l1 : (ls.take (half ls.length)).length = half ls.length := by rw [List.length_take]; omega
    have l2 : (ls.drop (half ls.length)).length = ls.length - half ls.length := by rw [List.length_drop]
    have i1 := ih (half ls.length) omQ (ls.take (half ls.length)) a l1 omQ (by
     rw [l1]
     have e := congrArg (List.take (half ls.length)) hls
     rw [List.take_take, Nat.min_eq_left omQ] at e
     exact e) omQ
    have i2 := ih (ls.length - half ls.length) omQ (ls.drop (half ls.length)) (a + half ls.length) l2 omQ (by
     rw [l2]
     have e := congrArg (List.drop (half ls.length)) hls
     rw [List.drop_take, List.drop_drop] at e
     exact e) omQ
    rw [l1] at i1
    rw [l2] at i2
    rw [con_s omQ ho', sides_s omQ ho, List.append_assoc, i1, rowD_s (ls := ls) omQ]
    simp only
    rw [i2]
end Mk
end Go.Fw
end

section
/- Lists of leaves that are in order. -/
namespace Go.Fw
namespace Mk
def bigB (x : Lf) : Bool := decide (65536 < x.1.length) || decide (65536 < x.2.length)
def ascN (ls : List Lf) : Nat → Bool
 | 0 => true
 | n + 1 => ascN ls n && (decide (n = 0) || lt (ls.getD (n - 1) kv0).1 (ls.getD n kv0).1)
def vE (ls : List Lf) : Int := if 4096 < ls.length ∨ ls.any bigB = true then 4 else if ascN ls ls.length = true then 0 else 1
def Asc (ls : List Lf) : Prop := ∀ i, i + 1 < ls.length → lt (ls.getD i kv0).1 (ls.getD (i + 1) kv0).1 = true
theorem asc_of {ls : List Lf} : ∀ n, ascN ls n = true → ∀ i, i + 1 < n → lt (ls.getD i kv0).1 (ls.getD (i + 1) kv0).1 = true
 | 0, _, i, hi => absurd hi omQ
 | n + 1, h, i, hi => by
  rw [ascN, Bool.and_eq_true] at h
  by_cases hin : i + 1 = n
  ·have h2 := h.2
   rw [show decide (n = 0) = false from decide_eq_false omQ, Bool.false_or, show n - 1 = i by omega, ← hin] at h2
   exact h2
  ·exact asc_of n h.1 i omQ
theorem vE_asc {ls : List Lf} (h : vE ls = 0) : Asc ls ∧ ls.length ≤ 4096 ∧ ∀ x ∈ ls, x.1.length ≤ 65536 ∧ x.2.length ≤ 65536 := by
 unfold vE at h
 split at h
 ·cases h
 ·rename_i h1
  split at h
  ·rename_i h2
   refine ⟨fun i hi => asc_of _ h2 i hi, by omega, fun x hx => ?_⟩
   have h3 : ls.any bigB = false := by
    cases h4 : ls.any bigB with
    | true => exact absurd (.inr h4) h1
    | false => rfl
   have := List.any_eq_false.1 h3 x hx
   simp only [bigB, Bool.or_eq_true, decide_eq_true_eq, not_or] at this
   omega
  ·cases h
theorem asc_lt {ls : List Lf} (h : Asc ls) : ∀ (j i : Nat), i < j → j < ls.length → lt (ls.getD i kv0).1 (ls.getD j kv0).1 = true
 | 0, i, hi, _ => absurd hi omQ
 | j + 1, i, hi, hj => by
  have h1 := h j hj
  by_cases hij : i = j
  ·subst hij; exact h1
  ·exact lt_tr (asc_lt h j i omQ omQ) h1
def frN (ls : List Lf) (k : List UInt8) : Nat → Nat
 | 0 => 0
 | n + 1 => frN ls k n + (if lt (ls.getD n kv0).1 k = true then 1 else 0)
def frm (ls : List Lf) (k : List UInt8) : Nat := frN ls k ls.length
theorem frN_le (ls : List Lf) (k : List UInt8) : ∀ n, frN ls k n ≤ n
 | 0 => Nat.le_refl _
 | n + 1 => by have := frN_le ls k n; rw [frN]; split <;> omega
theorem frm_le (ls : List Lf) (k : List UInt8) : frm ls k ≤ ls.length := frN_le _ _ _
theorem frN_at {ls : List Lf} {k : List UInt8} {p : Nat} (h1 : ∀ i, i < p → lt (ls.getD i kv0).1 k = true) (h2 : ∀ i, p ≤ i → i < ls.length → lt (ls.getD i kv0).1 k = false) : ∀ n, n ≤ ls.length → frN ls k n = min n p
 | 0, _ => by simp [frN]
 | n + 1, hn => by
  rw [frN, frN_at h1 h2 n omQ]
  by_cases hp : n < p
  ·rw [if_pos (h1 n hp)]; omega
  ·rw [if_neg (by rw [h2 n omQ omQ]; decide)]; omega
theorem frm_at {ls : List Lf} {k : List UInt8} {p : Nat} (hp : p ≤ ls.length) (h1 : ∀ i, i < p → lt (ls.getD i kv0).1 k = true) (h2 : ∀ i, p ≤ i → i < ls.length → lt (ls.getD i kv0).1 k = false) : frm ls k = p := by
 unfold frm; rw [frN_at h1 h2 _ (Nat.le_refl _)]; omega
def hasF (ls : List Lf) (k : List UInt8) : Option Nat := if frm ls k < ls.length ∧ (ls.getD (frm ls k) kv0).1 = k then some (frm ls k) else none
theorem has_at {ls : List Lf} (h : Asc ls) {k : List UInt8} {i : Nat} (hi : i < ls.length) (hk : (ls.getD i kv0).1 = k) : frm ls k = i := by
 refine frm_at omQ (fun j hj => ?_) fun j h1 h2 => ?_
 ·rw [← hk]; exact asc_lt h i j hj hi
 ·rw [← hk]
  by_cases hij : i = j
  ·subst hij; exact lt_irr _
  ·exact lt_asy (asc_lt h j i omQ h2)
end Mk
end Go.Fw
end

section
/- What the small functions over leaves compute. -/
namespace Go.Fw
namespace Mk
def ixF (p : Lf → Bool) (xs : List Lf) : Int := match xs.findIdx? p with
 | some k => k
 | none => -1
theorem ixF_at {p : Lf → Bool} {xs : List Lf} {i : Nat} (hi : i < xs.length) (hp : p (xs.getD i kv0) = true) (hn : ∀ j, j < i → p (xs.getD j kv0) = false) : ixF p xs = i := by
 have : xs.findIdx? p = some i := by
  rw [List.findIdx?_eq_some_iff_getElem]
  refine ⟨hi, by simpa [hi] using hp, fun j hj => ?_⟩
  have := hn j hj
  have hj' : j < xs.length := by omega
  simpa [hj'] using this
 unfold ixF
 rw [this]
theorem ixF_no {p : Lf → Bool} {xs : List Lf} (hn : ∀ j, j < xs.length → p (xs.getD j kv0) = false) : ixF p xs = -1 := by
 have : xs.findIdx? p = none := by
  rw [List.findIdx?_eq_none_iff]
  intro x hx
  obtain ⟨j, hj, rfl⟩ := List.mem_iff_getElem.1 hx
  have := hn j hj
  simpa [hj] using this
 unfold ixF
 rw [this]
theorem ixF_any (p : Lf → Bool) (xs : List Lf) : decide (0 ≤ ixF p xs) = xs.any p := by
 unfold ixF
 cases h : xs.findIdx? p with
 | none =>
  have h := List.findIdx?_eq_none_iff.1 h
  have : xs.any p = false := List.any_eq_false.2 fun x hx => by simp [h x hx]
  rw [this]; rfl
 | some k =>
  obtain ⟨h1, h2, _⟩ := List.findIdx?_eq_some_iff_getElem.1 h
  have : xs.any p = true := List.any_eq_true.2 ⟨_, List.getElem_mem h1, h2⟩
  rw [this]
  exact decide_eq_true (Int.natCast_nonneg k)
theorem none_step {p : Lf → Bool} {xs : List Lf} {i : Int} (hi : 0 ≤ i) (hp : p (xs.getD i.toNat kv0) = false) (hn : ∀ j, j < i.toNat → p (xs.getD j kv0) = false) : ∀ j, j < (i + 1).toNat → p (xs.getD j kv0) = false := fun j hj => by
 rcases Nat.lt_or_ge j i.toNat with h | h
 ·exact hn j h
 ·obtain rfl : j = i.toNat := by omega
  exact hp
theorem any_no {p : Lf → Bool} {xs : List Lf} (hn : ∀ j, j < xs.length → p (xs.getD j kv0) = false) : xs.any p = false := by
 rw [← ixF_any, ixF_no hn]; rfl
theorem any_at {p : Lf → Bool} {xs : List Lf} {i : Nat} (hi : i < xs.length) (hp : p (xs.getD i kv0) = true) : xs.any p = true :=
 List.any_eq_true.2 ⟨_, List.getElem_mem hi, by rw [List.getD_eq_getElem?_getD, List.getElem?_eq_getElem hi, Option.getD_some] at hp; exact hp⟩
theorem big_eq (x : Lf) : (decide ((65536 : Int) < (x.1.length : Int)) || decide ((65536 : Int) < (x.2.length : Int))) = bigB x := by
 unfold bigB
 congr 1 <;> exact decide_eq_decide.2 omQ
theorem pow_half {n : Nat} {m : Int} {j : Nat} (hm : m = ((2 ^ j : Nat) : Int)) (h1 : j = 0 ∨ 2 ^ j < n) (h2 : ¬ 2 * m < (n : Int)) (hn : 2 ≤ n) : m = (half n : Int) := by
 have h3 : ¬ 2 * 2 ^ j < n := by omega
 have h4 : 2 ^ j < n := by
  rcases h1 with rfl | h1
  ·omega
  ·exact h1
 rw [half_eq h4 h3]; exact hm
def sub (ls : List Lf) (a n : Nat) : List Lf := (ls.drop a).take n
theorem sub_len {ls : List Lf} {a n : Nat} (h : a + n ≤ ls.length) : (sub ls a n).length = n := by
 unfold sub; rw [List.length_take, List.length_drop]; omega
theorem sub_get {ls : List Lf} {a n i : Nat} (h : i < n) : (sub ls a n).getD i kv0 = ls.getD (a + i) kv0 := by
 unfold sub
 rw [List.getD_eq_getElem?_getD, List.getElem?_take, if_pos h, List.getElem?_drop, ← List.getD_eq_getElem?_getD]
theorem sub_take {ls : List Lf} {a n k : Nat} (h : k ≤ n) : (sub ls a n).take k = sub ls a k := by
 unfold sub; rw [List.take_take, Nat.min_eq_left h]
theorem sub_drop {ls : List Lf} {a n k : Nat} : (sub ls a n).drop k = sub ls (a + k) (n - k) := by
 unfold sub; rw [List.drop_take, List.drop_drop]
theorem sub_all (ls : List Lf) : sub ls 0 ls.length = ls := by unfold sub; rw [List.drop_zero, List.take_length]
theorem rowD_sub1 {ls : List Lf} {a : Nat} (h : a + 1 ≤ ls.length) : rowD (sub ls a 1) = leafD (ls.getD a kv0) := by
 rw [rowD_1 (sub_len h), sub_get omQ, Nat.add_zero]
theorem rowD_sub {ls : List Lf} {a n : Nat} (h : a + n ≤ ls.length) (hn : 2 ≤ n) : rowD (sub ls a n) = nodeD (rowD (sub ls a (half n))) (rowD (sub ls (a + half n) (n - half n))) := by
 have hl := half_lt hn
 rw [rowD_s (by rw [sub_len h]; exact hn), sub_len h, sub_take omQ, sub_drop]
end Mk
end Go.Fw
namespace Go.Fw
namespace Mk
theorem mid_eq {s : Int} (h0 : 0 ≤ s) (h1 : s < 4611686018427387904) : sgn (UInt64.ofNat ((ofq s).toNat / 2 ^ (min (1 : Int).toNat 64))) = s / 2 := by
 have e1 : (ofq s).toNat = s.toNat := by
  obtain ⟨n, rfl⟩ := Int.eq_ofNat_of_zero_le h0
  simp [ofq]
  omega
 rw [e1, show (2 : Nat) ^ (min (1 : Int).toNat 64) = 2 from rfl]
 have e2 : (UInt64.ofNat (s.toNat / 2)).toNat = s.toNat / 2 := by simp; omega
 unfold sgn
 rw [e2]
 rw [if_pos omQ]
 omega
theorem le_not {a b : List UInt8} : (lt b a || decide (b = a)) = !lt a b := by
 cases h : lt a b with
 | true =>
  have h2 := lt_asy h
  rw [h2]
  have : b ≠ a := fun e => by rw [e, lt_irr] at h; cases h
  simp [this]
 | false =>
  cases h3 : lt b a with
  | true => rfl
  | false => simp [lt_con h3 h]
theorem cmp_neg {a b : List UInt8} : Lib.compareBytes a b < 0 ↔ lt a b = true := by
 rw [cmp_lt]; split
 ·rename_i h; simp [h]
 ·rename_i h; simp only [h]; split <;> simp
theorem cmp_zero {a b : List UInt8} : Lib.compareBytes a b = 0 ↔ a = b := by
 rw [cmp_lt]; split
 ·rename_i h
  constructor
  ·intro h2; cases h2
  ·intro h2; rw [h2, lt_irr] at h; cases h
 ·split
  ·rename_i h; simp [h]
  ·rename_i h; simp [h]
theorem asc_all {ls : List Lf} : ∀ n, (∀ i, i + 1 < n → lt (ls.getD i kv0).1 (ls.getD (i + 1) kv0).1 = true) → ascN ls n = true
 | 0, _ => rfl
 | n + 1, h => by
  rw [ascN, asc_all n fun i hi => h i omQ, Bool.true_and]
  cases n with
  | zero => rfl
  | succ n => rw [show n + 1 - 1 = n by omega, h n omQ]; simp
theorem asc_next {ls : List Lf} {i : Int} (h0 : 0 ≤ i) (h : ascN ls i.toNat = true) (hn : ¬ (0 < i ∧ (!lt (ls.getD (i - 1).toNat kv0).1 (ls.getD i.toNat kv0).1) = true)) : ascN ls (i + 1).toNat = true := by
 rw [show (i + 1).toNat = i.toNat + 1 by omega, ascN, h, Bool.true_and]
 by_cases hi : i = 0
 ·subst hi; rfl
 ·rw [show (i - 1).toNat = i.toNat - 1 by omega] at hn
  have : lt (ls.getD (i.toNat - 1) kv0).1 (ls.getD i.toNat kv0).1 = true := by
   cases h3 : lt (ls.getD (i.toNat - 1) kv0).1 (ls.getD i.toNat kv0).1 with
   | true => rfl
   | false => exact absurd ⟨by omega, by rw [h3]; rfl⟩ hn
  rw [this]; simp
theorem asc_stop {ls : List Lf} {i : Int} (h0 : 0 < i) (hl : i < ls.length) (h : lt (ls.getD (i - 1).toNat kv0).1 (ls.getD i.toNat kv0).1 = false) : ascN ls ls.length = false := by
 cases h2 : ascN ls ls.length with
 | false => rfl
 | true =>
  have := asc_of _ h2 (i - 1).toNat omQ
  rw [show (i - 1).toNat + 1 = i.toNat by omega, h] at this
  cases this
theorem vE_4 {ls : List Lf} (h : 4096 < ls.length ∨ ls.any bigB = true) : vE ls = 4 := by unfold vE; rw [if_pos h]
theorem vE_1 {ls : List Lf} (h : ¬ (4096 < ls.length ∨ ls.any bigB = true)) (h2 : ascN ls ls.length = false) : vE ls = 1 := by unfold vE; rw [if_neg h, if_neg (by rw [h2]; simp)]
theorem vE_0 {ls : List Lf} (h : ¬ (4096 < ls.length ∨ ls.any bigB = true)) (h2 : ascN ls ls.length = true) : vE ls = 0 := by unfold vE; rw [if_neg h, if_pos h2]
theorem bs_lt {ls : List Lf} (h : Asc ls) {k : List UInt8} {m : Nat} (hm : m < ls.length) (hi : lt (ls.getD m kv0).1 k = true) : ∀ t, t < m + 1 → lt (ls.getD t kv0).1 k = true := fun t ht => by
 by_cases e : t = m
 ·subst e; exact hi
 ·exact lt_tr (asc_lt h m t omQ hm) hi
theorem bs_ge {ls : List Lf} (h : Asc ls) {k : List UInt8} {m : Nat} (hm : m < ls.length) (hi : lt (ls.getD m kv0).1 k = false) : ∀ t, m ≤ t → t < ls.length → lt (ls.getD t kv0).1 k = false := fun t ht h2 => by
 by_cases e : t = m
 ·subst e; exact hi
 ·cases h3 : lt (ls.getD t kv0).1 k with
  | false => rfl
  | true => rw [lt_tr (asc_lt h t m omQ h2) h3] at hi; cases hi
theorem frN_succ (ls : List Lf) (k : List UInt8) (n : Nat) : frN ls k (n + 1) = frN ls k n + (if lt (ls.getD n kv0).1 k = true then 1 else 0) := rfl
end Mk
end Go.Fw
namespace Go.Fw
namespace Mk
def fnd (ls : List Lf) (k : List UInt8) : Bool := decide (frm ls k < ls.length) && decide ((ls.getD (frm ls k) kv0).1 = k)
theorem fnd_eq {ls : List Lf} {k : List UInt8} {i : Int} (h0 : 0 ≤ i) (h : i = (frm ls k : Int)) : (decide (i < (ls.length : Int)) && decide (Lib.compareBytes (ls.getD i.toNat kv0).1 k = 0)) = fnd ls k := by
 subst h
 unfold fnd
 rw [Int.toNat_natCast]
 congr 1
 ·exact decide_eq_decide.2 omQ
 ·exact decide_eq_decide.2 cmp_zero
end Mk
end Go.Fw
namespace Go.Fw
namespace Mk
theorem getD_in {xs : List Lf} {k : Nat} (h : k < xs.length) : xs.getD k kv0 ∈ xs := by rw [List.getD_eq_getElem?_getD, List.getElem?_eq_getElem h]; exact List.getElem_mem h
def rootE (ls : List Lf) : Dg × Int := if vE ls = 0 then (rootD ls.length (rowD ls), 0) else (List.replicate 16 0, vE ls)
theorem rootE_e {ls : List Lf} (h : vE ls ≠ 0) : rootE ls = (List.replicate 16 0, vE ls) := if_neg h
theorem rootE_n {ls : List Lf} (h : vE ls = 0) : rootE ls = (rootD ls.length (rowD ls), 0) := if_pos h
theorem rootE_0 {ls : List Lf} (h : vE ls = 0) (h0 : ls.length = 0) : rootE ls = (rootD 0 (List.replicate 16 0), 0) := by rw [rootE_n h, h0]; unfold rootD; rw [if_pos rfl, if_pos rfl]
end Mk
end Go.Fw
namespace Go.Fw
namespace Mk
theorem getD_inD {xs : List Dg} {k : Nat} (h : k < xs.length) : xs.getD k [] ∈ xs := by rw [List.getD_eq_getElem?_getD, List.getElem?_eq_getElem h]; exact List.getElem_mem h
end Mk
end Go.Fw
namespace Go.Fw
namespace Mk
theorem two_lt {x y : List UInt8} (hx : x.length < 1048576) (hy : y.length < 1048576) : ∀ p ∈ [x, y], p.length < 1048576 := fun p hp => by
 simp only [List.mem_cons, List.not_mem_nil, or_false] at hp
 rcases hp with rfl | rfl <;> assumption
theorem two_le {x y : List UInt8} (hx : x.length ≤ 140737488355328) (hy : y.length ≤ 140737488355328) : ∀ p ∈ [x, y], p.length ≤ 140737488355328 := fun p hp => by
 simp only [List.mem_cons, List.not_mem_nil, or_false] at hp
 rcases hp with rfl | rfl <;> assumption
end Mk
end Go.Fw
namespace Go.Fw
namespace Mk
theorem cut_sub (ls : List Lf) (i n : Nat) : (ls.take (i + n)).drop i = sub ls i n := by
 unfold sub; rw [List.drop_take, Nat.add_sub_cancel_left]
end Mk
end Go.Fw
end

section
/- What the reference makes of a tree: the texts that are hashed, the sides that are used. -/
namespace Go.Fw
namespace Mk
def zD : Dg := List.replicate 16 0
theorem zD_16 : zD.length = 16 := rfl
def leafT (x : Lf) : List UInt8 := Sha.inp 3 [x.1, x.2]
def nodeT (a b : Dg) : List UInt8 := Sha.inp 4 [a, b]
def rootT (n : Nat) (d : Dg) : List UInt8 := if n = 0 then Sha.inp 4 [Wi.int 0] else Sha.inp 4 [Wi.int n, d]
abbrev Tx := List (List UInt8)
def rr (first : Nat) (lv : List Lf) (sd : List Dg) : Nat → Nat → Nat → Tx → Nat → Bool → Dg × Tx × Nat × Bool
 | 0, _, _, T, u, s => (zD, T, u, s)
 | f + 1, n, a, T, u, s =>
  if a + n ≤ first ∨ first + lv.length ≤ a then
   (if sd.length ≤ u then (zD, T, u, true) else (sd.getD u [], T, u + 1, s))
  else if n ≤ 1 then (leafD (lv.getD (a - first) kv0), T ++ [leafT (lv.getD (a - first) kv0)], u, s)
  else
   let r1 := rr first lv sd f (half n) a T u s
   let r2 := rr first lv sd f (n - half n) (a + half n) r1.2.1 r1.2.2.1 r1.2.2.2
   (nodeD r1.1 r2.1, r2.2.1 ++ [nodeT r1.1 r2.1], r2.2.2.1, r2.2.2.2)
section
variable {first : Nat} {lv : List Lf} {sd : List Dg} {f n a : Nat} {T : Tx} {u : Nat} {s : Bool}
theorem rr_short (ho : a + n ≤ first ∨ first + lv.length ≤ a) (h : sd.length ≤ u) : rr first lv sd (f + 1) n a T u s = (zD, T, u, true) := by rw [rr, if_pos ho, if_pos h]
theorem rr_side (ho : a + n ≤ first ∨ first + lv.length ≤ a) (h : ¬ sd.length ≤ u) : rr first lv sd (f + 1) n a T u s = (sd.getD u [], T, u + 1, s) := by rw [rr, if_pos ho, if_neg h]
theorem rr_leaf (ho : ¬ (a + n ≤ first ∨ first + lv.length ≤ a)) (h : n = 1) : rr first lv sd (f + 1) n a T u s = (leafD (lv.getD (a - first) kv0), T ++ [leafT (lv.getD (a - first) kv0)], u, s) := by rw [rr, if_neg ho, if_pos omQ]
theorem rr_node (ho : ¬ (a + n ≤ first ∨ first + lv.length ≤ a)) (h : 2 ≤ n) {r1 r2 : Dg × Tx × Nat × Bool} (h1 : r1 = rr first lv sd f (half n) a T u s) (h2 : r2 = rr first lv sd f (n - half n) (a + half n) r1.2.1 r1.2.2.1 r1.2.2.2) :
  rr first lv sd (f + 1) n a T u s = (nodeD r1.1 r2.1, r2.2.1 ++ [nodeT r1.1 r2.1], r2.2.2.1, r2.2.2.2) := by
 subst h1; subst h2
 rw [rr, if_neg ho, if_neg omQ]
end
theorem rr_bd {first : Nat} {lv : List Lf} {sd : List Dg} (h16 : ∀ d ∈ sd, d.length = 16) : ∀ (f n a : Nat) (T : Tx) (u : Nat) (s : Bool), 1 ≤ n → n ≤ f →
  (rr first lv sd f n a T u s).1.length = 16 ∧ (rr first lv sd f n a T u s).2.1.length + 1 ≤ T.length + 2 * n ∧ (rr first lv sd f n a T u s).2.2.1 ≤ u + n ∧ ((rr first lv sd f n a T u s).2.2.1 ≤ sd.length ∨ sd.length < u)
 | 0, n, a, T, u, s, h1, h2 => absurd h1 omQ
 | f + 1, n, a, T, u, s, h1, h2 => by
  by_cases ho : a + n ≤ first ∨ first + lv.length ≤ a
  ·by_cases h : sd.length ≤ u
   ·rw [rr_short ho h]; exact ⟨zD_16, by dsimp only; omega, by dsimp only; omega, by dsimp only; omega⟩
   ·rw [rr_side ho h]
    refine ⟨?_, by dsimp only; omega, by dsimp only; omega, by dsimp only; omega⟩
    dsimp only
    rw [List.getD_eq_getElem?_getD, List.getElem?_eq_getElem omQ, Option.getD_some]
    exact h16 _ (List.getElem_mem _)
  ·by_cases h : n = 1
   ·rw [rr_leaf ho h]; exact ⟨leafD_16 _, by dsimp only; rw [List.length_append, List.length_singleton]; omega, by dsimp only; omega, by dsimp only; omega⟩
   ·have hp := half_pos n
    have hl := half_lt (n := n) omQ
    have b1 := rr_bd h16 (lv := lv) (first := first) f (half n) a T u s hp omQ
    rw [rr_node ho omQ rfl rfl]
    generalize rr first lv sd f (half n) a T u s = r1 at b1 ⊢
    have b2 := rr_bd h16 (lv := lv) (first := first) f (n - half n) (a + half n) r1.2.1 r1.2.2.1 r1.2.2.2 omQ omQ
    generalize rr first lv sd f (n - half n) (a + half n) r1.2.1 r1.2.2.1 r1.2.2.2 = r2 at b2 ⊢
    refine ⟨nodeD_16 _ _, by dsimp only; rw [List.length_append, List.length_singleton]; omega, by dsimp only; omega, by dsimp only; omega⟩
def rrR (first : Nat) (lv : List Lf) (sd : List Dg) (n : Nat) : Dg × Tx × Nat × Bool :=
 if n = 0 then (rootD 0 zD, [rootT 0 zD], 0, false)
 else (rootD n (rr first lv sd n n 0 [] 0 false).1, (rr first lv sd n n 0 [] 0 false).2.1 ++ [rootT n (rr first lv sd n n 0 [] 0 false).1], (rr first lv sd n n 0 [] 0 false).2.2.1, (rr first lv sd n n 0 [] 0 false).2.2.2)
end Mk
end Go.Fw
namespace Go.Fw
namespace Mk
theorem rr_full {ls : List Lf} {sd : List Dg} : ∀ (f n a : Nat) (T : Tx) (u : Nat) (s : Bool), 1 ≤ n → n ≤ f → a + n ≤ ls.length →
  (rr 0 ls sd f n a T u s).1 = rowD (sub ls a n) ∧ (rr 0 ls sd f n a T u s).2.2 = (u, s)
 | 0, n, a, T, u, s, h1, h2, _ => absurd h1 omQ
 | f + 1, n, a, T, u, s, h1, h2, h3 => by
  have ho : ¬ (a + n ≤ 0 ∨ 0 + ls.length ≤ a) := by omega
  by_cases h : n = 1
  ·subst h
   rw [rr_leaf ho rfl, rowD_sub1 h3]
   exact ⟨rfl, rfl⟩
  ·have hp := half_pos n
   have hl := half_lt (n := n) omQ
   have b1 := rr_full (ls := ls) (sd := sd) f (half n) a T u s hp omQ omQ
   rw [rr_node ho omQ rfl rfl]
   generalize rr 0 ls sd f (half n) a T u s = r1 at b1 ⊢
   have b2 := rr_full (ls := ls) (sd := sd) f (n - half n) (a + half n) r1.2.1 r1.2.2.1 r1.2.2.2 omQ omQ omQ
   generalize rr 0 ls sd f (n - half n) (a + half n) r1.2.1 r1.2.2.1 r1.2.2.2 = r2 at b2 ⊢
   refine ⟨?_, ?_⟩
   ·show nodeD r1.1 r2.1 = _
    rw [b1.1, b2.1, rowD_sub h3 omQ]
   ·show (r2.2.2.1, r2.2.2.2) = _
    have e1 := b1.2
    have e2 := b2.2
    rw [Prod.ext_iff] at e1 e2 ⊢
    exact ⟨e2.1.trans e1.1, e2.2.trans e1.2⟩
theorem rootD_0 (d : Dg) : rootD 0 d = Sha.ofD 4 [Wi.int ((0 : Nat) : Int)] := if_pos rfl
end Mk
end Go.Fw
namespace Go.Fw
namespace Mk
section
variable {ls : List Lf} {first en a n : Nat}
theorem sides_out' (hn : 1 ≤ n) (h : a + n ≤ ls.length) (ho : a + n ≤ first ∨ en ≤ a) : sidesD first en (sub ls a n) a = [rowD (sub ls a n)] := sides_out (by rw [sub_len h]; exact hn) (by rw [sub_len h]; exact ho)
theorem sides_1' (h : a + 1 ≤ ls.length) (ho : ¬ (a + 1 ≤ first ∨ en ≤ a)) : sidesD first en (sub ls a 1) a = [] := sides_1 (sub_len h) (by rw [sub_len h]; exact ho)
theorem sides_s' (hn : 2 ≤ n) (h : a + n ≤ ls.length) (ho : ¬ (a + n ≤ first ∨ en ≤ a)) : sidesD first en (sub ls a n) a = sidesD first en (sub ls a (half n)) a ++ sidesD first en (sub ls (a + half n) (n - half n)) (a + half n) := by
 have hl := half_lt hn
 rw [sides_s (by rw [sub_len h]; exact hn) (by rw [sub_len h]; exact ho), sub_len h, sub_take omQ, sub_drop]
end
theorem sides_bd {ls : List Lf} {first en : Nat} : ∀ (f n a : Nat), 1 ≤ n → n ≤ f → a + n ≤ ls.length → (sidesD first en (sub ls a n) a).length ≤ n ∧ ∀ d ∈ sidesD first en (sub ls a n) a, d.length = 16
 | 0, n, a, h1, h2, _ => absurd h1 omQ
 | f + 1, n, a, h1, h2, h3 => by
  by_cases ho : a + n ≤ first ∨ en ≤ a
  ·rw [sides_out' h1 h3 ho]
   refine ⟨by rw [List.length_singleton]; exact h1, fun d hd => ?_⟩
   rw [List.mem_singleton] at hd
   subst hd
   exact rowD_16 (by rw [sub_len h3]; exact h1)
  ·by_cases h : n = 1
   ·subst h
    rw [sides_1' h3 ho]
    exact ⟨by simp, fun d hd => by cases hd⟩
   ·have hp := half_pos n
    have hl := half_lt (n := n) omQ
    have b1 := sides_bd (ls := ls) (first := first) (en := en) f (half n) a hp omQ omQ
    have b2 := sides_bd (ls := ls) (first := first) (en := en) f (n - half n) (a + half n) omQ omQ omQ
    rw [sides_s' omQ h3 ho]
    refine ⟨by rw [List.length_append]; omega, fun d hd => ?_⟩
    rcases List.mem_append.1 hd with h | h
    ·exact b1.2 d h
    ·exact b2.2 d h
structure Pf where
 fst : Int
 sz : Int
 lv : List Lf
 sd : List Dg
def shown (ls : List Lf) (first en : Nat) : Pf := ⟨first, ls.length, (ls.take en).drop first, if ls.length = 0 then [] else sidesD first en ls 0⟩
end Mk
def PfZ (q : Mk.Pf) (lv sv : Value) (z : PH) : Prop := Sl encF z lv q.lv ∧ Sl (encA 16) z sv q.sd
def PfR (q : Mk.Pf) : Value → List PH → List Res → Prop := fun r zs hs => ∃ lv sv z, r = .agg [vi q.fst, vi q.sz, lv, sv].toArray ∧ Sl encF z lv q.lv ∧ Sl (encA 16) z sv q.sd ∧ zs = [z] ∧ hs = []
def PfE (q : Mk.Pf) (e : Int) : Value → List PH → List Res → Prop := fun r zs hs => ∃ lv sv z, r = .tuple [.agg [vi q.fst, vi q.sz, lv, sv].toArray, vi e].toArray ∧ Sl encF z lv q.lv ∧ Sl (encA 16) z sv q.sd ∧ zs = [z] ∧ hs = []
theorem pf_of {q q' : Mk.Pf} {r : Value} {zs : List PH} {hs : List Res} (h : PfR q r zs hs) (e : q' = q) : PfR q' r zs hs := e ▸ h
theorem pe_of {q q' : Mk.Pf} {e e' : Int} {r : Value} {zs : List PH} {hs : List Res} (h : PfE q e r zs hs) (h1 : q' = q) (h2 : e' = e) : PfE q' e' r zs hs := h1 ▸ h2 ▸ h
end Go.Fw
end

section
/- What the reference's helpers and both Proves compute. -/
namespace Go.Fw
namespace Mk
theorem frm_def (ls : List Lf) (k : List UInt8) : frm ls k = frN ls k ls.length := rfl
def pf0 : Pf := ⟨0, 0, [], []⟩
def provE (ls : List Lf) (k : List UInt8) : Pf × Int :=
 if vE ls = 0 then (if fnd ls k = true then (shown ls (frm ls k) (frm ls k + 1), 0) else (shown ls (frm ls k - 1) (min (frm ls k + 1) ls.length), 0)) else (pf0, vE ls)
def rangE (ls : List Lf) (k m : List UInt8) : Pf × Int :=
 if vE ls = 0 then (if lt m k = true then (pf0, 5) else (shown ls (frm ls k - 1) (min (frm ls m + 1) ls.length), 0)) else (pf0, vE ls)
section
variable {ls : List Lf} {k m : List UInt8}
theorem provE_e (h : ¬ vE ls = 0) : provE ls k = (pf0, vE ls) := by unfold provE; rw [if_neg h]
theorem provE_t (h : vE ls = 0) (h2 : fnd ls k = true) : provE ls k = (shown ls (frm ls k) (frm ls k + 1), 0) := by unfold provE; rw [if_pos h, if_pos h2]
theorem provE_f (h : vE ls = 0) (h2 : fnd ls k = false) : provE ls k = (shown ls (frm ls k - 1) (min (frm ls k + 1) ls.length), 0) := by unfold provE; rw [if_pos h, if_neg (by rw [h2]; simp)]
theorem rangE_e (h : ¬ vE ls = 0) : rangE ls k m = (pf0, vE ls) := by unfold rangE; rw [if_neg h]
theorem rangE_t (h : vE ls = 0) (h2 : lt m k = true) : rangE ls k m = (pf0, 5) := by unfold rangE; rw [if_pos h, if_pos h2]
theorem rangE_f (h : vE ls = 0) (h2 : lt m k = false) : rangE ls k m = (shown ls (frm ls k - 1) (min (frm ls m + 1) ls.length), 0) := by unfold rangE; rw [if_pos h, if_neg (by rw [h2]; simp)]
theorem fnd_t (h : frm ls k < ls.length) (h2 : (ls.getD (frm ls k) kv0).1 = k) : fnd ls k = true := by unfold fnd; rw [decide_eq_true h, decide_eq_true h2]; rfl
theorem fnd_f (h : ¬ (frm ls k < ls.length ∧ (ls.getD (frm ls k) kv0).1 = k)) : fnd ls k = false := by
 unfold fnd
 cases h3 : decide (frm ls k < ls.length) with
 | false => rfl
 | true =>
  cases h4 : decide ((ls.getD (frm ls k) kv0).1 = k) with
  | false => rfl
  | true => exact absurd ⟨of_decide_eq_true h3, of_decide_eq_true h4⟩ h
theorem fnd_iff : fnd ls k = true ↔ frm ls k < ls.length ∧ (ls.getD (frm ls k) kv0).1 = k := by
 unfold fnd; rw [Bool.and_eq_true, decide_eq_true_eq, decide_eq_true_eq]
theorem frN_mono (h : lt m k = false) : ∀ n, frN ls k n ≤ frN ls m n
 | 0 => Nat.le_refl _
 | n + 1 => by
  have ih := frN_mono h n
  rw [frN_succ, frN_succ]
  by_cases h1 : lt (ls.getD n kv0).1 k = true
  ·rw [if_pos h1, if_pos (lt_le h1 h)]; omega
  ·rw [if_neg h1]; omega
theorem frm_mono (h : lt m k = false) : frm ls k ≤ frm ls m := frN_mono h _
end
def hasI (ls : List Lf) (k : List UInt8) : Int := ixF (fun x => decide (x.1 = k)) ls
theorem hasI_no {ls : List Lf} {k : List UInt8} (hn : ∀ j, j < ls.length → decide ((ls.getD j kv0).1 = k) = false) : hasI ls k = -1 := ixF_no hn
theorem hasI_at {ls : List Lf} {k : List UInt8} {i : Nat} (hi : i < ls.length) (hp : (ls.getD i kv0).1 = k) (hn : ∀ j, j < i → decide ((ls.getD j kv0).1 = k) = false) : hasI ls k = i := ixF_at hi (decide_eq_true hp) hn
theorem has_fnd {ls : List Lf} (h : vE ls = 0) (k : List UInt8) : 0 ≤ hasI ls k ↔ fnd ls k = true := by
 have ha := (vE_asc h).1
 have e := ixF_any (fun x => decide (x.1 = k)) ls
 constructor
 ·intro h0
  have h1 : ls.any (fun x => decide (x.1 = k)) = true := by rw [← e]; exact decide_eq_true h0
  obtain ⟨x, hx, hk⟩ := List.any_eq_true.1 h1
  obtain ⟨i, hi, rfl⟩ := List.getElem_of_mem hx
  have hk2 : (ls.getD i kv0).1 = k := by
   rw [List.getD_eq_getElem?_getD, List.getElem?_eq_getElem hi]; exact of_decide_eq_true hk
  have hf := has_at ha hi hk2
  exact fnd_t omQ (by rw [hf]; exact hk2)
 ·intro h0
  obtain ⟨h1, h2⟩ := fnd_iff.1 h0
  have h3 : ls.any (fun x => decide (x.1 = k)) = true := any_at h1 (by simpa using h2)
  rw [← e] at h3
  exact of_decide_eq_true h3
def inB (k m : List UInt8) (x : Lf) : Bool := !lt x.1 k && lt x.1 m
def inside (ls : List Lf) (k m : List UInt8) : List Lf := ls.filter (inB k m)
theorem take_snoc {α : Type} (d : α) {xs : List α} {i : Nat} (h : i < xs.length) : xs.take (i + 1) = xs.take i ++ [xs.getD i d] := by
 rw [List.take_add_one, List.getElem?_eq_getElem h, List.getD_eq_getElem?_getD, List.getElem?_eq_getElem h]; rfl
def samePf (p q : Pf) : Bool := ((decide (p.fst = q.fst) && decide (p.sz = q.sz)) && decide (p.lv = q.lv)) && decide (p.sd = q.sd)
theorem same_refl (p : Pf) : samePf p p = true := by simp [samePf]
def keyB (n : Int) : List UInt8 := if n % 3 = 0 then [ofb (97 + n / 3)] else [ofb (97 + n / 3), ofb (97 + n % 3)]
def vals : List (List UInt8) := [[], [49], [50], [97, 32, 98], [49, 50]]
def lvs (l : List Int) : Nat → List Lf × Int
 | 0 => ([], -1)
 | i + 1 => ((lvs l i).1 ++ [(keyB ((lvs l i).2 + 1 + Gu.atN l (2 * i) 3), vals.getD (Gu.atN l (2 * i + 1) 5).toNat [])], (lvs l i).2 + 1 + Gu.atN l (2 * i) 3)
def lvC (l : List Int) : Nat := min 11 ((l.length + 1) / 2)
def leavesL (l : List Int) : List Lf := (lvs l (lvC l)).1
def keyL (ls : List Lf) (n : Int) : List UInt8 :=
 let k := Gu.arnd n (3 * ls.length + 5)
 if k < ls.length then (ls.getD k.toNat kv0).1 else if k < 2 * ls.length then (ls.getD (k - ls.length).toNat kv0).1 ++ [97] else if k = 2 * ls.length then [] else keyB k
def leavesR (raw : List Lf) : List Lf := (raw.take 8).map fun x => (x.1.take 40, x.2.take 40)
end Mk
end Go.Fw
namespace Go.Fw
namespace Mk
theorem keyB_1 {n : Int} (h : n % 3 = 0) : keyB n = [ofb (97 + n / 3)] := by unfold keyB; rw [if_pos h]
theorem keyB_2 {n : Int} (h : ¬ n % 3 = 0) : keyB n = [ofb (97 + n / 3), ofb (97 + n % 3)] := by unfold keyB; rw [if_neg h]
end Mk
end Go.Fw
end

section
/- What Under, Check, CheckRange say, in both programs. -/
namespace Go.Fw
namespace Mk
def ug (first : Nat) (lv : List Lf) : Nat → Nat → Nat → List Dg → Bool → Dg × List Dg × Bool
 | 0, _, _, sd, s => (zD, sd, s)
 | f + 1, n, a, sd, s =>
  if s = false then (zD, sd, false)
  else if a + n ≤ first ∨ first + lv.length ≤ a then (match sd with | [] => (zD, [], false) | d :: t => (d, t, true))
  else if n ≤ 1 then (leafD (lv.getD (a - first) kv0), sd, s)
  else
   let r1 := ug first lv f (half n) a sd s
   let r2 := ug first lv f (n - half n) (a + half n) r1.2.1 r1.2.2
   (nodeD r1.1 r2.1, r2.2.1, r2.2.2)
theorem ug_q (first : Nat) (lv : List Lf) (f n a : Nat) (sd : List Dg) (s : Bool) : ug first lv (f + 1) n a sd s =
  (if s = false then (zD, sd, false)
  else if a + n ≤ first ∨ first + lv.length ≤ a then (match sd with | [] => (zD, [], false) | d :: t => (d, t, true))
  else if n ≤ 1 then (leafD (lv.getD (a - first) kv0), sd, s)
  else (nodeD (ug first lv f (half n) a sd s).1 (ug first lv f (n - half n) (a + half n) (ug first lv f (half n) a sd s).2.1 (ug first lv f (half n) a sd s).2.2).1,
   (ug first lv f (n - half n) (a + half n) (ug first lv f (half n) a sd s).2.1 (ug first lv f (half n) a sd s).2.2).2.1, (ug first lv f (n - half n) (a + half n) (ug first lv f (half n) a sd s).2.1 (ug first lv f (half n) a sd s).2.2).2.2)) := rfl
section
variable {first : Nat} {lv : List Lf} {f n a : Nat} {sd : List Dg} {s : Bool}
theorem ug_no : ug first lv (f + 1) n a sd false = (zD, sd, false) := by rw [ug_q, if_pos rfl]
theorem ug_nil (ho : a + n ≤ first ∨ first + lv.length ≤ a) : ug first lv (f + 1) n a [] true = (zD, [], false) := by rw [ug_q, if_neg (by simp), if_pos ho]
theorem ug_side (ho : a + n ≤ first ∨ first + lv.length ≤ a) {d : Dg} {t : List Dg} : ug first lv (f + 1) n a (d :: t) true = (d, t, true) := by rw [ug_q, if_neg (by simp), if_pos ho]
theorem ug_leaf (ho : ¬ (a + n ≤ first ∨ first + lv.length ≤ a)) (h : n = 1) : ug first lv (f + 1) n a sd true = (leafD (lv.getD (a - first) kv0), sd, true) := by rw [ug_q, if_neg (by simp), if_neg ho, if_pos omQ]
theorem ug_node (ho : ¬ (a + n ≤ first ∨ first + lv.length ≤ a)) (h : 2 ≤ n) {r1 r2 : Dg × List Dg × Bool} (h1 : r1 = ug first lv f (half n) a sd true) (h2 : r2 = ug first lv f (n - half n) (a + half n) r1.2.1 r1.2.2) : ug first lv (f + 1) n a sd true = (nodeD r1.1 r2.1, r2.2.1, r2.2.2) := by
 subst h1; subst h2
 rw [ug_q, if_neg (by simp), if_neg ho, if_neg omQ]
end
theorem ug_16 {first : Nat} {lv : List Lf} : ∀ (f n a : Nat) (sd : List Dg) (s : Bool), (∀ d ∈ sd, d.length = 16) → (ug first lv f n a sd s).1.length = 16 ∧ (∀ d ∈ (ug first lv f n a sd s).2.1, d.length = 16) ∧ (ug first lv f n a sd s).2.1.length ≤ sd.length
 | 0, n, a, sd, s, h => ⟨zD_16, h, Nat.le_refl _⟩
 | f + 1, n, a, sd, false, h => by rw [ug_no]; exact ⟨zD_16, h, Nat.le_refl _⟩
 | f + 1, n, a, sd, true, h => by
  by_cases ho : a + n ≤ first ∨ first + lv.length ≤ a
  ·cases sd with
   | nil => rw [ug_nil ho]; exact ⟨zD_16, h, Nat.le_refl _⟩
   | cons d t => rw [ug_side ho]; exact ⟨h d (List.mem_cons_self ..), fun x hx => h x (List.mem_cons_of_mem _ hx), by simp⟩
  ·by_cases h1 : n ≤ 1
   ·rw [ug_q, if_neg (by simp), if_neg ho, if_pos h1]; exact ⟨leafD_16 _, h, Nat.le_refl _⟩
   ·have b1 := ug_16 (first := first) (lv := lv) f (half n) a sd true h
    rw [ug_node ho omQ rfl rfl]
    generalize ug first lv f (half n) a sd true = r1 at b1 ⊢
    have b2 := ug_16 (first := first) (lv := lv) f (n - half n) (a + half n) r1.2.1 r1.2.2 b1.2.1
    generalize ug first lv f (n - half n) (a + half n) r1.2.1 r1.2.2 = r2 at b2 ⊢
    exact ⟨nodeD_16 _ _, b2.2.1, by dsimp only; omega⟩
theorem ug_con {first : Nat} {lv : List Lf} : ∀ (f n a : Nat) (sd : List Dg), 1 ≤ n → n ≤ f →
  (∀ d t, cn_ first lv f n a sd = some (d, t) → ug first lv f n a sd true = (d, t, true)) ∧ (cn_ first lv f n a sd = none → (ug first lv f n a sd true).2.2 = false)
 | 0, n, a, sd, h1, h2 => absurd h1 omQ
 | f + 1, n, a, sd, h1, h2 => by
  rw [cn_s]
  by_cases ho : a + n ≤ first ∨ first + lv.length ≤ a
  ·rw [if_pos ho]
   cases sd with
   | nil => rw [ug_nil ho]; exact ⟨fun d t h => by (simp only at h; cases h), fun _ => rfl⟩
   | cons d t => rw [ug_side ho]; exact ⟨fun d' t' h => by (simp only [Option.some.injEq, Prod.mk.injEq] at h; rw [h.1, h.2]), fun h => by (simp only at h; cases h)⟩
  ·rw [if_neg ho]
   by_cases h3 : n ≤ 1
   ·rw [if_pos h3, ug_leaf ho omQ]
    exact ⟨fun d t h => by (simp only [Option.some.injEq, Prod.mk.injEq] at h; rw [h.1, h.2]), fun h => by cases h⟩
   ·have hp := half_pos n
    have hl := half_lt (n := n) omQ
    obtain ⟨b1, b2⟩ := ug_con (first := first) (lv := lv) f (half n) a sd hp omQ
    rw [if_neg h3, ug_node ho omQ rfl rfl]
    cases hc : cn_ first lv f (half n) a sd with
    | none =>
     have := b2 hc
     refine ⟨fun d t h => by (simp only at h; cases h), fun _ => ?_⟩
     dsimp only
     rw [this]
     cases f with
     | zero => rfl
     | succ f => rw [ug_no]
    | some p =>
     obtain ⟨x, s1⟩ := p
     rw [b1 x s1 hc]
     dsimp only
     obtain ⟨c1, c2⟩ := ug_con (first := first) (lv := lv) f (n - half n) (a + half n) s1 omQ omQ
     cases hc2 : cn_ first lv f (n - half n) (a + half n) s1 with
     | none => exact ⟨fun d t h => by (simp only at h; cases h), fun _ => c2 hc2⟩
     | some q =>
      obtain ⟨y, s2⟩ := q
      rw [c1 y s2 hc2]
      exact ⟨fun d t h => by (simp only [Option.some.injEq, Prod.mk.injEq] at h; rw [h.1, h.2]), fun h => by (simp only at h; cases h)⟩
def okP (q : Pf) : Prop := 0 ≤ q.sz ∧ q.sz ≤ 4096 ∧ 0 ≤ q.fst ∧ q.fst ≤ q.sz ∧ q.fst + q.lv.length ≤ q.sz ∧ vE q.lv = 0
instance (q : Pf) : Decidable (okP q) := by unfold okP; infer_instance
def conB (q : Pf) (r : Dg) : Bool := match conD q.fst.toNat q.lv q.sz.toNat 0 q.sd with
 | some (d, []) => decide (rootD q.sz.toNat d = r)
 | _ => false
def undB (q : Pf) (r : Dg) : Bool := if okP q then (if q.sz = 0 then (decide (q.sd = []) && decide (rootD 0 zD = r)) else if q.lv = [] then false else conB q r) else false
theorem und_no {q : Pf} {r : Dg} (h : ¬ okP q) : undB q r = false := by unfold undB; rw [if_neg h]
theorem und_0 {q : Pf} {r : Dg} (h : okP q) (h0 : q.sz = 0) : undB q r = (decide (q.sd = []) && decide (rootD 0 zD = r)) := by unfold undB; rw [if_pos h, if_pos h0]
theorem und_nil {q : Pf} {r : Dg} (h0 : ¬ q.sz = 0) (h1 : q.lv = []) : undB q r = false := by
 unfold undB
 by_cases h : okP q
 ·rw [if_pos h, if_neg h0, if_pos h1]
 ·rw [if_neg h]
theorem und_n {q : Pf} {r : Dg} (h : okP q) (h0 : ¬ q.sz = 0) (h1 : ¬ q.lv = []) : undB q r = conB q r := by unfold undB; rw [if_pos h, if_neg h0, if_neg h1]
theorem con_ug {q : Pf} {r : Dg} (h : 1 ≤ q.sz.toNat) {σ : Dg × List Dg × Bool} (hσ : σ = ug q.fst.toNat q.lv q.sz.toNat q.sz.toNat 0 q.sd true) : ((σ.2.2 && decide (((σ.2.1.length : Nat) : Int) = 0)) && decide (rootD q.sz.toNat σ.1 = r)) = conB q r := by
 subst hσ
 obtain ⟨h1, h2⟩ := ug_con (first := q.fst.toNat) (lv := q.lv) q.sz.toNat q.sz.toNat 0 q.sd h (Nat.le_refl _)
 unfold conB conD
 cases hc : cn_ q.fst.toNat q.lv q.sz.toNat q.sz.toNat 0 q.sd with
 | none => rw [h2 hc]; rfl
 | some p =>
  obtain ⟨d, t⟩ := p
  rw [h1 d t hc]
  cases t with
  | nil => simp
  | cons x y =>
   dsimp only
   have : decide ((((x :: y).length : Nat) : Int) = 0) = false := decide_eq_false (by rw [List.length_cons]; omega)
   rw [this]; rfl
def chkE (r : Dg) (k : List UInt8) (q : Pf) : List UInt8 × Bool × Int :=
  if undB q r = true then
    (if fnd q.lv k = true then ((q.lv.getD (frm q.lv k) kv0).2, true, 0)
     else if (0 < frm q.lv k ∨ q.fst = 0) ∧ (frm q.lv k < q.lv.length ∨ q.fst + q.lv.length = q.sz) then ([], false, 0) else ([], false, 17))
  else ([], false, 17)
theorem chk_n {r : Dg} {k : List UInt8} {q : Pf} (h : undB q r = false) : chkE r k q = ([], false, 17) := by unfold chkE; rw [if_neg (by rw [h]; simp)]
theorem chk_t {r : Dg} {k : List UInt8} {q : Pf} (h : undB q r = true) (h2 : fnd q.lv k = true) : chkE r k q = ((q.lv.getD (frm q.lv k) kv0).2, true, 0) := by unfold chkE; rw [if_pos h, if_pos h2]
theorem chk_f {r : Dg} {k : List UInt8} {q : Pf} (h : undB q r = true) (h2 : fnd q.lv k = false) (h3 : (0 < frm q.lv k ∨ q.fst = 0) ∧ (frm q.lv k < q.lv.length ∨ q.fst + q.lv.length = q.sz)) : chkE r k q = ([], false, 0) := by unfold chkE; rw [if_pos h, if_neg (by rw [h2]; simp), if_pos h3]
theorem chk_x {r : Dg} {k : List UInt8} {q : Pf} (h : undB q r = true) (h2 : fnd q.lv k = false) (h3 : ¬ ((0 < frm q.lv k ∨ q.fst = 0) ∧ (frm q.lv k < q.lv.length ∨ q.fst + q.lv.length = q.sz))) : chkE r k q = ([], false, 17) := by unfold chkE; rw [if_pos h, if_neg (by rw [h2]; simp), if_neg h3]
theorem und_ok {q : Pf} {r : Dg} (h : undB q r = true) : okP q := by
 by_cases h1 : okP q
 ·exact h1
 ·rw [und_no h1] at h; cases h
def badR (q : Pf) (k m : List UInt8) : Prop := (0 < q.fst ∧ frm q.lv k = 0) ∨ (q.fst + q.lv.length < q.sz ∧ frm q.lv m = q.lv.length)
instance (q : Pf) (k m : List UInt8) : Decidable (badR q k m) := by unfold badR; infer_instance
def chkR (r : Dg) (k m : List UInt8) (q : Pf) : List Lf × Int :=
 if lt m k = true then ([], 5) else if undB q r = true then (if badR q k m then ([], 17) else ((q.lv.take (frm q.lv m)).drop (frm q.lv k), 0)) else ([], 17)
section
variable {r : Dg} {k m : List UInt8} {q : Pf}
theorem chkR_5 (h : lt m k = true) : chkR r k m q = ([], 5) := by unfold chkR; rw [if_pos h]
theorem chkR_n (h : lt m k = false) (h2 : undB q r = false) : chkR r k m q = ([], 17) := by unfold chkR; rw [if_neg (by rw [h]; simp), if_neg (by rw [h2]; simp)]
theorem chkR_b (h : lt m k = false) (h2 : undB q r = true) (h3 : badR q k m) : chkR r k m q = ([], 17) := by unfold chkR; rw [if_neg (by rw [h]; simp), if_pos h2, if_pos h3]
theorem chkR_t (h : lt m k = false) (h2 : undB q r = true) (h3 : ¬ badR q k m) : chkR r k m q = ((q.lv.take (frm q.lv m)).drop (frm q.lv k), 0) := by unfold chkR; rw [if_neg (by rw [h]; simp), if_pos h2, if_neg h3]
end
end Mk
end Go.Fw
end

section
/- Texts: their lengths; when two of them collide. -/
namespace Go.Fw
namespace Mk
def dg16 (x : List UInt8) : Dg := (Sha.sum x).take 16
def colB (t : Tx) : Bool := (List.range t.length).any fun i => (List.range i).any fun k => !decide (t.getD i [] = t.getD k []) && decide (dg16 (t.getD i []) = dg16 (t.getD k []))
def okC (q : Pf) : Prop := 0 ≤ q.sz ∧ q.sz ≤ 4096 ∧ 0 ≤ q.fst ∧ q.fst ≤ q.sz ∧ (q.lv.length : Int) ≤ q.sz - q.fst
instance (q : Pf) : Decidable (okC q) := by unfold okC; infer_instance
def txP (q : Pf) : Tx := if okC q then (rrR q.fst.toNat q.lv q.sd q.sz.toNat).2.1 else []
def txL (ls : List Lf) : Tx := (rrR 0 ls [] ls.length).2.1
def coll (ls : List Lf) (q : Pf) : Bool := colB (txL ls ++ txP q)
section
variable {t : Tx} {i k : Nat}
def noC (t : Tx) (i : Nat) : Prop := ∀ j, j < i → ∀ k, k < j → ¬ (¬ t.getD j [] = t.getD k [] ∧ dg16 (t.getD j []) = dg16 (t.getD k []))
end
end Mk
end Go.Fw
namespace Go.Fw
namespace Mk
end Mk
end Go.Fw
namespace Go.Fw
namespace Mk
theorem lvs_len (l : List Int) : ∀ i, (lvs l i).1.length = i
 | 0 => rfl
 | i + 1 => by show ((lvs l i).1 ++ _).length = _; rw [List.length_append, lvs_len l i]; rfl
theorem lvs_at (l : List Int) : ∀ i : Nat, -1 ≤ (lvs l i).2 ∧ (lvs l i).2 < 3 * i
 | 0 => by show -1 ≤ (-1 : Int) ∧ (-1 : Int) < 3 * ((0 : Nat) : Int); omega
 | i + 1 => by
  have ih := lvs_at l i
  have := Gu.atN_range (l := l) (i := 2 * i) (m := 3) omQ
  show -1 ≤ (lvs l i).2 + 1 + Gu.atN l (2 * i) 3 ∧ (lvs l i).2 + 1 + Gu.atN l (2 * i) 3 < _
  push_cast
  omega
theorem keyB_len (n : Int) : (keyB n).length ≤ 2 := by unfold keyB; split <;> simp
theorem vals_len (i : Nat) : (vals.getD i []).length ≤ 3 := by
 rcases Nat.lt_or_ge i 5 with h | h
 ·rcases i with _ | _ | _ | _ | _ | i
  ·decide
  ·decide
  ·decide
  ·decide
  ·decide
  ·omega
 ·rw [List.getD_eq_getElem?_getD, List.getElem?_eq_none (by exact h)]; decide
theorem lvs_sm (l : List Int) : ∀ i, ∀ x ∈ (lvs l i).1, x.1.length ≤ 2 ∧ x.2.length ≤ 3
 | 0, x, hx => by cases hx
 | i + 1, x, hx => by
  have hx : x ∈ (lvs l i).1 ++ _ := hx
  rcases List.mem_append.1 hx with h | h
  ·exact lvs_sm l i x h
  ·rw [List.mem_singleton] at h
   subst h
   exact ⟨keyB_len _, vals_len _⟩
theorem lvs_next (l : List Int) {i : Int} (h : 0 ≤ i) : lvs l (i + 1).toNat = ((lvs l i.toNat).1 ++ [(keyB ((lvs l i.toNat).2 + 1 + Gu.atN l (2 * i) 3), vals.getD (Gu.atN l (2 * i + 1) 5).toNat [])], (lvs l i.toNat).2 + 1 + Gu.atN l (2 * i) 3) := by
 obtain ⟨n, rfl⟩ := Int.eq_ofNat_of_zero_le h
 rw [show ((n : Int) + 1).toNat = n + 1 by omega, Int.toNat_natCast]
 rfl
theorem lvC_at {l : List Int} {i : Int} (h0 : 0 ≤ i) (h1 : i = 0 ∨ (2 * (i - 1) < l.length ∧ i ≤ 11)) (h : ¬ (2 * i < l.length ∧ i < 11)) : i.toNat = lvC l := by unfold lvC; omega
theorem leaves_bd (l : List Int) : (leavesL l).length ≤ 11 ∧ ∀ x ∈ leavesL l, x.1.length ≤ 2 ∧ x.2.length ≤ 3 := by
 refine ⟨by unfold leavesL; rw [lvs_len]; unfold lvC; omega, lvs_sm l _⟩
end Mk
end Go.Fw
end

section
/- A proof with one thing changed. -/
namespace Go.Fw
namespace Mk
def bK (q : Pf) (b : Int) : Nat := (Gu.arnd b (max (q.lv.length : Int) 1)).toNat
def bJ (q : Pf) (b : Int) : Nat := (Gu.arnd b (max (q.sd.length : Int) 1)).toNat
def one1 : Dg := 1 :: List.replicate 15 0
def flip (d : Dg) (b : Int) : Dg := d.set (Gu.arnd (b.tdiv 8) 16).toNat (d.getD (Gu.arnd (b.tdiv 8) 16).toNat 0 ^^^ 1)
def bent (q : Pf) (how b : Int) : Pf :=
 let h := Gu.arnd how 11
 if h = 0 then { q with fst := wr (wr (q.fst + Gu.arnd b 5) - 2) }
 else if h = 1 then { q with sz := wr (wr (q.sz + Gu.arnd b 5) - 2) }
 else if h = 2 then { q with sz := [b, 4096, 4097, -1].getD (Gu.arnd b 4).toNat 0 }
 else if h = 3 then { q with fst := b }
 else if h = 4 then (if 0 < q.lv.length then { q with lv := q.lv.set (bK q b) (keyB (Gu.arnd b 40), (q.lv.getD (bK q b) kv0).2) } else q)
 else if h = 5 then (if 0 < q.lv.length then { q with lv := q.lv.set (bK q b) ((q.lv.getD (bK q b) kv0).1, (q.lv.getD (bK q b) kv0).2 ++ [120]) } else q)
 else if h = 6 then (if 0 < q.lv.length then { q with lv := q.lv.take (bK q b) ++ q.lv.drop (bK q b + 1) } else q)
 else if h = 7 then { q with lv := q.lv ++ [(keyB (Gu.arnd b 40), [])] }
 else if h = 8 then (if 0 < q.sd.length then { q with sd := q.sd.set (bJ q b) (flip (q.sd.getD (bJ q b) []) b) } else q)
 else if h = 9 then (if 0 < q.sd.length then { q with sd := q.sd.take (bJ q b) ++ q.sd.drop (bJ q b + 1) } else q)
 else { q with sd := q.sd ++ [one1] }
def smP (q : Pf) (m b : Nat) : Prop := q.lv.length ≤ m ∧ q.sd.length ≤ m ∧ (∀ x ∈ q.lv, x.1.length ≤ b ∧ x.2.length ≤ b) ∧ ∀ d ∈ q.sd, d.length = 16
theorem bK_lt {q : Pf} {b : Int} (h : 0 < q.lv.length) : bK q b < q.lv.length := by
 have := Gu.arnd_range (n := b) (m := max (q.lv.length : Int) 1) omQ
 unfold bK; omega
theorem bJ_lt {q : Pf} {b : Int} (h : 0 < q.sd.length) : bJ q b < q.sd.length := by
 have := Gu.arnd_range (n := b) (m := max (q.sd.length : Int) 1) omQ
 unfold bJ; omega
theorem flip_16 {d : Dg} {b : Int} (h : d.length = 16) : (flip d b).length = 16 := by unfold flip; rw [List.length_set]; exact h
theorem smP_lv {q : Pf} {m b : Nat} (h : smP q m b) {l : List Lf} (h1 : l.length ≤ m + 1) (h2 : ∀ x ∈ l, x.1.length ≤ b + 2 ∧ x.2.length ≤ b + 2) : smP { q with lv := l } (m + 1) (b + 2) := ⟨h1, Nat.le_succ_of_le h.2.1, h2, h.2.2.2⟩
theorem smP_sd {q : Pf} {m b : Nat} (h : smP q m b) {l : List Dg} (h1 : l.length ≤ m + 1) (h2 : ∀ d ∈ l, d.length = 16) : smP { q with sd := l } (m + 1) (b + 2) := ⟨Nat.le_succ_of_le h.1, h1, fun x hx => by have := h.2.2.1 x hx; omega, h2⟩
theorem bent_sm {q : Pf} {m b : Nat} (h : smP q m b) (how n : Int) : smP (bent q how n) (m + 1) (b + 2) := by
 have h0 : smP q (m + 1) (b + 2) := ⟨Nat.le_succ_of_le h.1, Nat.le_succ_of_le h.2.1, fun x hx => by have := h.2.2.1 x hx; omega, h.2.2.2⟩
 have hx2 : ∀ x ∈ q.lv, x.1.length ≤ b + 2 ∧ x.2.length ≤ b + 2 := h0.2.2.1
 unfold bent
 dsimp only
 generalize Gu.arnd how 11 = hh
 by_cases e0 : hh = 0
 ·rw [if_pos e0]
  exact ⟨h0.1, h0.2.1, h0.2.2.1, h0.2.2.2⟩
 rw [if_neg e0]
 by_cases e1 : hh = 1
 ·rw [if_pos e1]
  exact ⟨h0.1, h0.2.1, h0.2.2.1, h0.2.2.2⟩
 rw [if_neg e1]
 by_cases e2 : hh = 2
 ·rw [if_pos e2]
  exact ⟨h0.1, h0.2.1, h0.2.2.1, h0.2.2.2⟩
 rw [if_neg e2]
 by_cases e3 : hh = 3
 ·rw [if_pos e3]
  exact ⟨h0.1, h0.2.1, h0.2.2.1, h0.2.2.2⟩
 rw [if_neg e3]
 by_cases e4 : hh = 4
 ·rw [if_pos e4]
  split
  ·rename_i hl
   refine smP_lv h (by rw [List.length_set]; exact h0.1) fun x hx => ?_
   rcases List.mem_or_eq_of_mem_set hx with hx | rfl
   ·exact hx2 x hx
   ·have := keyB_len (Gu.arnd n 40)
    have h3 := hx2 _ (getD_in (xs := q.lv) (k := bK q n) (bK_lt hl))
    exact ⟨by dsimp only; omega, h3.2⟩
  ·exact h0
 rw [if_neg e4]
 by_cases e5 : hh = 5
 ·rw [if_pos e5]
  split
  ·rename_i hl
   refine smP_lv h (by rw [List.length_set]; exact h0.1) fun x hx => ?_
   rcases List.mem_or_eq_of_mem_set hx with hx | rfl
   ·exact hx2 x hx
   ·have h3 := h.2.2.1 _ (getD_in (xs := q.lv) (k := bK q n) (bK_lt hl))
    exact ⟨by dsimp only; omega, by dsimp only; rw [List.length_append, List.length_singleton]; omega⟩
  ·exact h0
 rw [if_neg e5]
 by_cases e6 : hh = 6
 ·rw [if_pos e6]
  split
  ·refine smP_lv h (by have := h.1; rw [List.length_append, List.length_take, List.length_drop]; omega) fun x hx => ?_
   rcases List.mem_append.1 hx with hx | hx
   ·exact hx2 x (List.mem_of_mem_take hx)
   ·exact hx2 x (List.mem_of_mem_drop hx)
  ·exact h0
 rw [if_neg e6]
 by_cases e7 : hh = 7
 ·rw [if_pos e7]
  refine smP_lv h (by have := h.1; rw [List.length_append, List.length_singleton]; omega) fun x hx => ?_
  rcases List.mem_append.1 hx with hx | hx
  ·exact hx2 x hx
  ·rw [List.mem_singleton] at hx
   subst hx
   have := keyB_len (Gu.arnd n 40)
   exact ⟨by dsimp only; omega, by dsimp only; rw [List.length_nil]; omega⟩
 rw [if_neg e7]
 by_cases e8 : hh = 8
 ·rw [if_pos e8]
  split
  ·rename_i hl
   refine smP_sd h (by rw [List.length_set]; exact h0.2.1) fun x hx => ?_
   rcases List.mem_or_eq_of_mem_set hx with hx | rfl
   ·exact h.2.2.2 x hx
   ·exact flip_16 (h.2.2.2 _ (getD_inD (bJ_lt hl)))
  ·exact h0
 rw [if_neg e8]
 by_cases e9 : hh = 9
 ·rw [if_pos e9]
  split
  ·refine smP_sd h (by have := h.2.1; rw [List.length_append, List.length_take, List.length_drop]; omega) fun x hx => ?_
   rcases List.mem_append.1 hx with hx | hx
   ·exact h.2.2.2 x (List.mem_of_mem_take hx)
   ·exact h.2.2.2 x (List.mem_of_mem_drop hx)
  ·exact h0
 rw [if_neg e9]
 refine smP_sd h (by have := h.2.1; rw [List.length_append, List.length_singleton]; omega) fun x hx => ?_
 rcases List.mem_append.1 hx with hx | hx
 ·exact h.2.2.2 x hx
 ·rw [List.mem_singleton] at hx
  subst hx
  rfl
theorem kv_cut (xs : List Lf) (k : Nat) : (xs.flatMap kvC).take (k * 2) ++ (xs.flatMap kvC).drop ((k + 1) * 2) = (xs.take k ++ xs.drop (k + 1)).flatMap kvC := by
 rw [fm_take kvC_len, fm_drop kvC_len, List.flatMap_append]
end Mk
end Go.Fw
namespace Go.Fw
namespace Mk
theorem tdiv8 {b : Int} (h : -9223372036854775808 ≤ b ∧ b ≤ 9223372036854775807) : -9223372036854775808 ≤ b.tdiv 8 ∧ b.tdiv 8 ≤ 9223372036854775807 := by
 rcases Int.le_total 0 b with h0 | h0
 ·rw [Int.tdiv_eq_ediv_of_nonneg h0]; omega
 ·have e : b.tdiv 8 = -((-b) / 8) := by
   rw [show b = -(-b) by omega, Int.neg_tdiv, Int.tdiv_eq_ediv_of_nonneg omQ]; simp
  rw [e]; omega
end Mk
end Go.Fw
end

section
/- Both directions: what is shown is accepted; what is accepted is true, or two texts collide. -/
namespace Go.Fw
namespace Mk
def cut (ls : List Lf) (st en : Nat) : List Lf := (ls.take en).drop st
theorem cut_len {ls : List Lf} {st en : Nat} (h2 : en ≤ ls.length) : (cut ls st en).length = en - st := by unfold cut; rw [List.length_drop, List.length_take]; omega
theorem cut_get {ls : List Lf} {st en i : Nat} (h : st + i < en) : (cut ls st en).getD i kv0 = ls.getD (st + i) kv0 := by
 unfold cut
 rw [List.getD_eq_getElem?_getD, List.getElem?_drop, List.getElem?_take, if_pos h, ← List.getD_eq_getElem?_getD]
theorem cut_mem {ls : List Lf} {st en : Nat} {x : Lf} (h : x ∈ cut ls st en) : x ∈ ls := List.mem_of_mem_take (List.mem_of_mem_drop h)
theorem cut_asc {ls : List Lf} {st en : Nat} (ha : Asc ls) (h2 : en ≤ ls.length) : Asc (cut ls st en) := fun i hi => by
 rw [cut_len h2] at hi
 rw [cut_get omQ, cut_get omQ, show st + (i + 1) = st + i + 1 by omega]
 exact ha (st + i) omQ
theorem cut_vE {ls : List Lf} {st en : Nat} (h : vE ls = 0) (h2 : en ≤ ls.length) : vE (cut ls st en) = 0 := by
 obtain ⟨ha, hl, hx⟩ := vE_asc h
 refine vE_0 ?_ (asc_all _ fun i hi => cut_asc ha h2 i hi)
 rintro (h3 | h3)
 ·rw [cut_len h2] at h3; omega
 ·obtain ⟨x, hm, hb⟩ := List.any_eq_true.1 h3
  have := hx x (cut_mem hm)
  unfold bigB at hb
  rw [Bool.or_eq_true, decide_eq_true_eq, decide_eq_true_eq] at hb
  omega
theorem und_shown {ls : List Lf} {st en : Nat} (h : vE ls = 0) (h1 : st ≤ en) (h2 : en ≤ ls.length) (h3 : ls.length = 0 ∨ st < en) : undB (shown ls st en) (rootE ls).1 = true := by
 obtain ⟨ha, hl, hx⟩ := vE_asc h
 have hcl := cut_len (ls := ls) (st := st) h2
 have hok : okP (shown ls st en) := by
  refine ⟨?_, ?_, ?_, ?_, ?_, cut_vE h h2⟩
  ·show (0 : Int) ≤ (ls.length : Int); omega
  ·show (ls.length : Int) ≤ 4096; omega
  ·show (0 : Int) ≤ (st : Int); omega
  ·show (st : Int) ≤ (ls.length : Int); omega
  ·show (st : Int) + ((cut ls st en).length : Int) ≤ (ls.length : Int); omega
 rw [rootE_n h]
 by_cases h0 : ls.length = 0
 ·rw [und_0 hok (by show (ls.length : Int) = 0; omega)]
  have e1 : (shown ls st en).sd = [] := by show (if ls.length = 0 then [] else _) = _; rw [if_pos h0]
  rw [e1, h0, rootD_0, rootD_0]
  simp
 ·have hl1 : ¬ (shown ls st en).lv = [] := fun h9 => by
   have : (cut ls st en).length = 0 := by rw [show cut ls st en = [] from h9]; rfl
   omega
  rw [und_n hok (by show ¬ (ls.length : Int) = 0; omega) hl1]
  have hs := con_sides ls st en h1 h2 ls.length ls 0 rfl omQ (by rw [List.drop_zero, List.take_length]) omQ []
  rw [List.append_nil] at hs
  have e1 : (shown ls st en).sd = sidesD st en ls 0 := by show (if ls.length = 0 then [] else _) = _; rw [if_neg h0]
  unfold conB
  rw [e1]
  have e2 : conD (shown ls st en).fst.toNat (shown ls st en).lv (shown ls st en).sz.toNat 0 (sidesD st en ls 0) = some (rowD ls, []) := hs
  rw [e2]
  exact decide_eq_true rfl
theorem sides_all {ls : List Lf} {en : Nat} : ∀ (f n a : Nat), 1 ≤ n → n ≤ f → a + n ≤ ls.length → a + n ≤ en → sidesD 0 en (sub ls a n) a = []
 | 0, n, a, h1, h2, _, _ => absurd h1 omQ
 | f + 1, n, a, h1, h2, h3, h4 => by
  by_cases h : n = 1
  ·subst h; exact sides_1' h3 omQ
  ·have hp := half_pos n
   have hl := half_lt (n := n) omQ
   rw [sides_s' omQ h3 omQ, sides_all f (half n) a hp omQ omQ omQ, sides_all f (n - half n) (a + half n) omQ omQ omQ omQ]
   rfl
theorem shown_all (ls : List Lf) : shown ls 0 ls.length = ⟨0, ls.length, ls, []⟩ := by
 unfold shown
 rw [List.drop_zero, List.take_length]
 by_cases h : ls.length = 0
 ·rw [if_pos h]; rfl
 ·rw [if_neg h]
  have := sides_all (ls := ls) (en := ls.length) ls.length ls.length 0 omQ (Nat.le_refl _) omQ omQ
  rw [sub_all] at this
  rw [this]; rfl
def inj (X : Tx) : Prop := ∀ x ∈ X, ∀ y ∈ X, dg16 x = dg16 y → x = y
def rightB (ls : List Lf) (k : List UInt8) (v : List UInt8) (b : Bool) : Bool := if fnd ls k = true then (b && decide (v = (ls.getD (frm ls k) kv0).2)) else !b
end Mk
end Go.Fw
end

section
/- The section's examples. -/
namespace Go.Fw
namespace Mk
def fv : List Lf := [([97], [49]), ([99], [50]), ([100], [51]), ([102], [52]), ([103], [53])]
theorem fv_0 : vE fv = 0 := by decide +kernel
theorem fv_r : (rootE fv).2 = 0 := by rw [rootE_n fv_0]
theorem fv_c : provE fv [99] = (shown fv 1 2, 0) := by
 rw [provE_t fv_0 (by decide +kernel), show frm fv [99] = 1 by decide +kernel]
theorem fv_e : provE fv [101] = (shown fv 2 4, 0) := by
 rw [provE_f fv_0 (by decide +kernel), show frm fv [101] = 3 by decide +kernel]; rfl
theorem fv_h : provE fv [104] = (shown fv 4 5, 0) := by
 rw [provE_f fv_0 (by decide +kernel), show frm fv [104] = 5 by decide +kernel]; rfl
theorem fv_g : rangE fv [99] [102] = (shown fv 0 4, 0) := by
 rw [rangE_f fv_0 (by decide +kernel), show frm fv [99] = 1 by decide +kernel, show frm fv [102] = 3 by decide +kernel]; rfl
theorem sh_n {st en n : Nat} (h1 : (sidesD st en fv 0).length = n) : (shown fv st en).sd.length = n := h1
theorem fv_s1 : (shown fv 1 2).sd.length = 3 := sh_n (by decide +kernel)
theorem fv_s2 : (shown fv 2 4).sd.length = 2 := sh_n (by decide +kernel)
theorem fv_s3 : (shown fv 4 5).sd.length = 1 := sh_n (by decide +kernel)
theorem fv_s4 : (shown fv 0 4).sd.length = 1 := sh_n (by decide +kernel)
theorem fv_u (st en : Nat) (h : st < en) (h2 : en ≤ 5) : undB (shown fv st en) (rootE fv).1 = true := und_shown fv_0 omQ h2 (.inr h)
theorem fv_k1 : chkE (rootE fv).1 [99] (shown fv 1 2) = ([50], true, 0) := by
 rw [chk_t (fv_u 1 2 omQ omQ) (by decide +kernel)]
 congr 1
theorem fv_k2 : chkE (rootE fv).1 [101] (shown fv 2 4) = ([], false, 0) := chk_f (fv_u 2 4 omQ omQ) (by decide +kernel) (by decide +kernel)
theorem fv_k3 : chkE (rootE fv).1 [100] (shown fv 2 4) = ([51], true, 0) := by
 rw [chk_t (fv_u 2 4 omQ omQ) (by decide +kernel)]
 congr 1
theorem fv_k4 : chkE (rootE fv).1 [99] (shown fv 2 4) = ([], false, 17) := chk_x (fv_u 2 4 omQ omQ) (by decide +kernel) (by decide +kernel)
theorem fv_k5 : chkR (rootE fv).1 [99] [102] (shown fv 0 4) = ([([99], [50]), ([100], [51])], 0) := by
 rw [chkR_t (by decide +kernel) (fv_u 0 4 omQ omQ) (by decide +kernel)]
 congr 1
end Mk
end Go.Fw
end

section
/- The leaves that are made of numbers are in order; what the laws use. -/
namespace Go.Fw
namespace Mk
theorem keyB_fin : ∀ m : Fin 33, ∀ n : Fin 33, m.1 < n.1 → lt (keyB (m.1 : Int)) (keyB (n.1 : Int)) = true := by decide +kernel
theorem keyB_lt {m n : Int} (h0 : 0 ≤ m) (h1 : m < n) (h2 : n < 33) : lt (keyB m) (keyB n) = true := by
 obtain ⟨a, rfl⟩ := Int.eq_ofNat_of_zero_le h0
 obtain ⟨b, rfl⟩ := Int.eq_ofNat_of_zero_le (show 0 ≤ n by omega)
 exact keyB_fin ⟨a, by omega⟩ ⟨b, by omega⟩ (by dsimp only; omega)
theorem lvs_rise (l : List Int) (i : Nat) : (lvs l i).2 < (lvs l (i + 1)).2 := by
 have := Gu.atN_range (l := l) (i := 2 * i) (m := 3) omQ
 show _ < (lvs l i).2 + 1 + Gu.atN l (2 * i) 3
 omega
theorem lvs_get (l : List Int) : ∀ c j, j < c → ((lvs l c).1.getD j kv0).1 = keyB (lvs l (j + 1)).2
 | 0, j, h => absurd h omQ
 | c + 1, j, h => by
  have e : (lvs l (c + 1)).1 = (lvs l c).1 ++ [(keyB ((lvs l c).2 + 1 + Gu.atN l (2 * c) 3), vals.getD (Gu.atN l (2 * c + 1) 5).toNat [])] := rfl
  have hl := lvs_len l c
  rw [e]
  rcases Nat.lt_or_ge j c with h1 | h1
  ·rw [List.getD_eq_getElem?_getD, List.getElem?_append_left omQ, ← List.getD_eq_getElem?_getD, lvs_get l c j h1]
  ·obtain rfl : j = c := by omega
   rw [List.getD_eq_getElem?_getD, List.getElem?_append_right omQ, hl, Nat.sub_self]
   rfl
theorem leaves_vE (l : List Int) : vE (leavesL l) = 0 := by
 have hb := leaves_bd l
 refine vE_0 ?_ (asc_all _ fun i hi => ?_)
 ·rintro (h | h)
  ·omega
  ·obtain ⟨x, hm, hx⟩ := List.any_eq_true.1 h
   have := hb.2 x hm
   unfold bigB at hx
   rw [Bool.or_eq_true, decide_eq_true_eq, decide_eq_true_eq] at hx
   omega
 ·have hl : (leavesL l).length = lvC l := lvs_len l _
  have hc : lvC l ≤ 11 := by unfold lvC; omega
  unfold leavesL
  rw [lvs_get l _ i omQ, lvs_get l _ (i + 1) omQ]
  have a0 := lvs_at l (i + 1 + 1)
  have a1 := lvs_rise l (i + 1)
  have a2 := lvs_rise l i
  have a3 := lvs_at l i
  exact keyB_lt omQ a1 (by push_cast at a0; omega)
theorem keyL_len {ls : List Lf} {b : Nat} (h : ∀ x ∈ ls, x.1.length ≤ b) (n : Int) : (keyL ls n).length ≤ b + 3 := by
 unfold keyL
 dsimp only
 split
 ·rename_i h1
  have hr := Gu.arnd_range (n := n) (m := 3 * (ls.length : Int) + 5) omQ
  have := h _ (getD_in (xs := ls) (k := (Gu.arnd n (3 * (ls.length : Int) + 5)).toNat) omQ)
  omega
 split
 ·rename_i h1 h2
  have hr := Gu.arnd_range (n := n) (m := 3 * (ls.length : Int) + 5) omQ
  have := h _ (getD_in (xs := ls) (k := (Gu.arnd n (3 * (ls.length : Int) + 5) - ls.length).toNat) omQ)
  rw [List.length_append, List.length_singleton]
  omega
 split
 ·simp
 ·have := keyB_len (Gu.arnd n (3 * ls.length + 5)); omega
theorem shown_sm {ls : List Lf} {st en b : Nat} (h2 : en ≤ ls.length) (hx : ∀ x ∈ ls, x.1.length ≤ b ∧ x.2.length ≤ b) : smP (shown ls st en) ls.length b := by
 refine ⟨?_, ?_, fun x hm => hx x (cut_mem hm), ?_⟩
 ·show (cut ls st en).length ≤ _; rw [cut_len h2]; omega
 ·show (if ls.length = 0 then [] else sidesD st en ls 0).length ≤ _
  by_cases h : ls.length = 0
  ·rw [if_pos h]; exact Nat.zero_le _
  ·rw [if_neg h]
   have := (sides_bd (ls := ls) (first := st) (en := en) ls.length ls.length 0 omQ (Nat.le_refl _) omQ).1
   rw [sub_all] at this
   exact this
 ·show ∀ d ∈ (if ls.length = 0 then [] else sidesD st en ls 0), _
  by_cases h : ls.length = 0
  ·rw [if_pos h]; exact fun d hd => by cases hd
  ·rw [if_neg h]
   have := (sides_bd (ls := ls) (first := st) (en := en) ls.length ls.length 0 omQ (Nat.le_refl _) omQ).2
   rw [sub_all] at this
   exact this
theorem pf0_sm (m b : Nat) : smP pf0 m b := ⟨Nat.zero_le _, Nat.zero_le _, fun x h => (by cases h), fun x h => (by cases h)⟩
theorem prov_sm {ls : List Lf} {b : Nat} (hx : ∀ x ∈ ls, x.1.length ≤ b ∧ x.2.length ≤ b) (k : List UInt8) : smP (provE ls k).1 ls.length b := by
 by_cases h : vE ls = 0
 ·cases hf : fnd ls k with
  | true => rw [provE_t h hf]; exact shown_sm (fnd_iff.1 hf).1 hx
  | false => rw [provE_f h hf]; exact shown_sm (Nat.min_le_right _ _) hx
 ·rw [provE_e h]; exact pf0_sm _ _
theorem smP_mono {q : Pf} {m b m' b' : Nat} (h : smP q m b) (hm : m ≤ m') (hb : b ≤ b') : smP q m' b' := ⟨Nat.le_trans h.1 hm, Nat.le_trans h.2.1 hm, fun x hx => by have := h.2.2.1 x hx; omega, h.2.2.2⟩
end Mk
end Go.Fw
namespace Go.Fw
namespace Mk
end Mk
end Go.Fw
namespace Go.Fw
namespace Mk
end Mk
end Go.Fw
namespace Go.Fw
namespace Mk
end Mk
end Go.Fw
end

section
/- Proofs as elements of a slice; what MerkleSound uses. -/
namespace Go.Fw
def encP : Enc Mk.Pf where
 size := 4
 rep z q c := ∃ lv sv, c = [vi q.fst, vi q.sz, lv, sv] ∧ Sl encF z lv q.lv ∧ Sl (encA 16) z sv q.sd
 mono hz h := by obtain ⟨lv, sv, h1, h2, h3⟩ := h; exact ⟨lv, sv, h1, h2.mono hz, h3.mono hz⟩
 len h := by obtain ⟨lv, sv, h1, _⟩ := h; rw [h1]; rfl
 one h u hu := by
  obtain ⟨lv, sv, h1, h2, h3⟩ := h
  rw [h1] at hu
  simp only [List.mem_cons, List.not_mem_nil, or_false] at hu
  rcases hu with rfl | rfl | rfl | rfl
  ·rfl
  ·rfl
  ·exact sl_one' h2
  ·exact sl_one' h3
theorem pf_get {qs : List Mk.Pf} {k : Nat} (hk : k < qs.length) : qs[k]? = some (qs.getD k Mk.pf0) := by
 rw [List.getD_eq_getElem?_getD, List.getElem?_eq_getElem hk]; rfl
theorem pf_at {z : PH} {v : Value} {qs : List Mk.Pf} (hS : Sl encP z v qs) {k : Nat} (hk : k < qs.length) :
  ∃ lv sv, cellsV z (elemPtr v (k * 4)) 4 = [vi (qs.getD k Mk.pf0).fst, vi (qs.getD k Mk.pf0).sz, lv, sv] ∧ Sl encF z lv (qs.getD k Mk.pf0).lv ∧ Sl (encA 16) z sv (qs.getD k Mk.pf0).sd := hS.rep (pf_get hk)
theorem q_ld_pf [Dfs] {P : Program} {n : Nat} {w0 : World} {zs : List PH} {hs : List Res} {L : List (Nat × Value)} {d : Option Tmp} {ty t : TypeId} {pos : String} {af : Array Edge} {g : Option (Nat × Bool)} {x : Operand} {v : Value} {z : PH} {qs : List Mk.Pf} {dd : TypeDesc} {by_ : Nat} {zv : Value} (ht : Tf P t dd 4 by_ zv) {k : Nat} (hS : Sl encP z v qs) (hz : ZIn w0 zs z) {f s lv sv : Value} (hc : cellsV z (elemPtr v (k * 4)) 4 = [f, s, lv, sv]) (h1 : opv L x = some (elemPtr v (k * 4))) (hd : aggD dd = true) (hk : k < qs.length) :
  Qt P n w0 zs hs L ⟨d, .load t x, ty, pos, af, g⟩ (.agg [f, s, lv, sv].toArray) := by
 have := q_ld_slA (P := P) (n := n) (w0 := w0) (zs := zs) (hs := hs) (L := L) (d := d) (ty := ty) (pos := pos) (af := af) (g := g) (x := x) (E := encP) ht (k := k) (m := k * 4) rfl deQ hS hz h1 hd hk
 rw [← hc]
 exact this
namespace Mk
section
variable {ls : List Lf} {q : Pf} {k v : List UInt8} {b : Bool} {e : Int}
end
end Mk
end Go.Fw
namespace Go.Fw
namespace Mk
end Mk
end Go.Fw
end

section
/- What MerkleChecks uses. -/
namespace Go.Fw
namespace Mk
end Mk
end Go.Fw
end

section
/- What MerkleRoots uses. -/
namespace Go.Fw
end Go.Fw
end

section
/- Proofs as bytes, in plain Lean. -/
namespace Go.Fw
namespace Mk
def flt (lv : List Lf) : List (List UInt8) := lv.flatMap fun x => [x.1, x.2]
def encPf (q : Pf) : List UInt8 := Wi.ints [q.fst, q.sz] ++ Wi.strs (flt q.lv) ++ Wi.dgs q.sd
def prs (l : List (List UInt8)) (n : Nat) : List Lf := (List.range n).map fun i => (l.getD (2 * i) [], l.getD (2 * i + 1) [])
def decPf (b : List UInt8) : Pf × Int × Int :=
  if ¬ (Wi.getList Wi.getInt b).2.2 = 0 then (pf0, 0, (Wi.getList Wi.getInt b).2.2) else
  if ¬ (Wi.getList Wi.getInt b).1.length = 2 then (pf0, 0, 2) else
  if ¬ (Wi.getList Wi.getBytes (b.drop (Wi.getList Wi.getInt b).2.1.toNat)).2.2 = 0 then (pf0, 0, (Wi.getList Wi.getBytes (b.drop (Wi.getList Wi.getInt b).2.1.toNat)).2.2) else
  if ¬ (Wi.getList Wi.getBytes (b.drop (Wi.getList Wi.getInt b).2.1.toNat)).1.length % 2 = 0 then (pf0, 0, 2) else
  if ¬ (Wi.getDigs (b.drop ((Wi.getList Wi.getInt b).2.1 + (Wi.getList Wi.getBytes (b.drop (Wi.getList Wi.getInt b).2.1.toNat)).2.1).toNat)).2.2 = 0 then (pf0, 0, (Wi.getDigs (b.drop ((Wi.getList Wi.getInt b).2.1 + (Wi.getList Wi.getBytes (b.drop (Wi.getList Wi.getInt b).2.1.toNat)).2.1).toNat)).2.2) else
  (⟨(Wi.getList Wi.getInt b).1.getD 0 0, (Wi.getList Wi.getInt b).1.getD 1 0, prs (Wi.getList Wi.getBytes (b.drop (Wi.getList Wi.getInt b).2.1.toNat)).1 ((Wi.getList Wi.getBytes (b.drop (Wi.getList Wi.getInt b).2.1.toNat)).1.length / 2),
    (Wi.getDigs (b.drop ((Wi.getList Wi.getInt b).2.1 + (Wi.getList Wi.getBytes (b.drop (Wi.getList Wi.getInt b).2.1.toNat)).2.1).toNat)).1⟩,
   (Wi.getList Wi.getInt b).2.1 + (Wi.getList Wi.getBytes (b.drop (Wi.getList Wi.getInt b).2.1.toNat)).2.1 + (Wi.getDigs (b.drop ((Wi.getList Wi.getInt b).2.1 + (Wi.getList Wi.getBytes (b.drop (Wi.getList Wi.getInt b).2.1.toNat)).2.1).toNat)).2.1, 0)
section
variable {b : List UInt8} {A : List Int} {S D : List (List UInt8)} {an ae sn se dn de : Int}
theorem dec_1 (hA : Wi.getList Wi.getInt b = (A, an, ae)) (h : ¬ ae = 0) : decPf b = (pf0, 0, ae) := by unfold decPf; rw [hA]; exact if_pos h
theorem dec_2 (hA : Wi.getList Wi.getInt b = (A, an, ae)) (h : ae = 0) (h2 : ¬ A.length = 2) : decPf b = (pf0, 0, 2) := by
 unfold decPf; rw [hA]; dsimp only; rw [if_neg (fun g => g h), if_pos h2]
theorem dec_3 (hA : Wi.getList Wi.getInt b = (A, an, ae)) (h : ae = 0) (h2 : A.length = 2) (hS : Wi.getList Wi.getBytes (b.drop an.toNat) = (S, sn, se)) (h3 : ¬ se = 0) : decPf b = (pf0, 0, se) := by
 unfold decPf; rw [hA]; dsimp only; rw [hS]; dsimp only; rw [if_neg (fun g => g h), if_neg (fun g => g h2), if_pos h3]
theorem dec_4 (hA : Wi.getList Wi.getInt b = (A, an, ae)) (h : ae = 0) (h2 : A.length = 2) (hS : Wi.getList Wi.getBytes (b.drop an.toNat) = (S, sn, se)) (h3 : se = 0) (h4 : ¬ S.length % 2 = 0) : decPf b = (pf0, 0, 2) := by
 unfold decPf; rw [hA]; dsimp only; rw [hS]; dsimp only; rw [if_neg (fun g => g h), if_neg (fun g => g h2), if_neg (fun g => g h3), if_pos h4]
theorem dec_5 (hA : Wi.getList Wi.getInt b = (A, an, ae)) (h : ae = 0) (h2 : A.length = 2) (hS : Wi.getList Wi.getBytes (b.drop an.toNat) = (S, sn, se)) (h3 : se = 0) (h4 : S.length % 2 = 0) (hD : Wi.getDigs (b.drop (an + sn).toNat) = (D, dn, de)) (h5 : ¬ de = 0) : decPf b = (pf0, 0, de) := by
 unfold decPf; rw [hA]; dsimp only; rw [hS]; dsimp only; rw [hD]; dsimp only; rw [if_neg (fun g => g h), if_neg (fun g => g h2), if_neg (fun g => g h3), if_neg (fun g => g h4), if_pos h5]
theorem dec_6 (hA : Wi.getList Wi.getInt b = (A, an, ae)) (h : ae = 0) (h2 : A.length = 2) (hS : Wi.getList Wi.getBytes (b.drop an.toNat) = (S, sn, se)) (h3 : se = 0) (h4 : S.length % 2 = 0) (hD : Wi.getDigs (b.drop (an + sn).toNat) = (D, dn, de)) (h5 : de = 0) : decPf b = (⟨A.getD 0 0, A.getD 1 0, prs S (S.length / 2), D⟩, an + sn + dn, 0) := by
 unfold decPf; rw [hA]; dsimp only; rw [hS]; dsimp only; rw [hD]; dsimp only; rw [if_neg (fun g => g h), if_neg (fun g => g h2), if_neg (fun g => g h3), if_neg (fun g => g h4), if_neg (fun g => g h5)]
end
theorem prs_len (l : List (List UInt8)) (n : Nat) : (prs l n).length = n := by unfold prs; rw [List.length_map, List.length_range]
theorem prs_0 (l : List (List UInt8)) : prs l 0 = [] := rfl
theorem prs_s (l : List (List UInt8)) (n : Nat) : prs l (n + 1) = prs l n ++ [(l.getD (2 * n) [], l.getD (2 * n + 1) [])] := by unfold prs; rw [List.range_succ, List.map_append]; rfl
theorem prs_step {l : List (List UInt8)} {N k : Nat} (h : l.length = 2 * N) (hk : k < N) :
  (prs l k).flatMap kvC ++ [vs ((List.drop (2 * (k : Int)).toNat (List.take (2 * (k : Int) + 2).toNat l)).getD 0 []), vs ((List.drop (2 * (k : Int)).toNat (List.take (2 * (k : Int) + 2).toNat l)).getD 1 [])] = (prs l (k + 1)).flatMap kvC := by
 rw [prs_s, List.flatMap_append]
 congr 1
 rw [List.getD_eq_getElem?_getD, List.getElem?_drop, List.getElem?_take, if_pos omQ, List.getD_eq_getElem?_getD, List.getElem?_drop, List.getElem?_take, if_pos omQ,
  show (2 * (k : Int)).toNat + 0 = 2 * k by omega, show (2 * (k : Int)).toNat + 1 = 2 * k + 1 by omega, ← List.getD_eq_getElem?_getD, ← List.getD_eq_getElem?_getD]
 rfl
theorem prs_kv {l : List (List UInt8)} {n : Nat} (h : ∀ x ∈ l, x.length ≤ 140737488355328) : ∀ x ∈ prs l n, kvP x := fun x hx => by
 unfold prs at hx
 obtain ⟨i, _, rfl⟩ := List.mem_map.1 hx
 have g : ∀ j, (l.getD j []).length ≤ 140737488355328 := fun j => by
  by_cases hj : j < l.length
  ·exact h _ (Sha.getD_mem l j hj)
  ·rw [List.getD_eq_getElem?_getD, List.getElem?_eq_none omQ]; exact Nat.zero_le _
 exact ⟨g _, g _⟩
theorem prs_step' {l : List (List UInt8)} {k : Nat} : (prs l k).flatMap kvC ++ [vs (l.getD (2 * (k : Int)).toNat []), vs (l.getD (2 * (k : Int) + 1).toNat [])] = (prs l (k + 1)).flatMap kvC := by
 rw [prs_s, List.flatMap_append, show (2 * (k : Int)).toNat = 2 * k by omega, show (2 * (k : Int) + 1).toNat = 2 * k + 1 by omega]
 rfl
theorem dec_len {b : List UInt8} (hb : b.length ≤ 140737488355328) : (decPf b).1.lv.length ≤ b.length := by
 unfold decPf
 split
 ·exact Nat.zero_le _
 split
 ·exact Nat.zero_le _
 split
 ·exact Nat.zero_le _
 split
 ·exact Nat.zero_le _
 split
 ·exact Nat.zero_le _
 ·dsimp only
  rw [prs_len]
  have := (Wi.getList_len Wi.codec_bytes (fun _ => .inr trivial) (b.drop (Wi.getList Wi.getInt b).2.1.toNat) (by rw [List.length_drop]; omega)).1
  rw [List.length_drop] at this
  omega
theorem flt_nil : flt [] = [] := rfl
theorem flt_cons (x : Lf) (lv : List Lf) : flt (x :: lv) = x.1 :: x.2 :: flt lv := rfl
theorem flt_len : ∀ (lv : List Lf), (flt lv).length = 2 * lv.length
 | [] => rfl
 | x :: t => by rw [flt_cons, List.length_cons, List.length_cons, List.length_cons, flt_len t]; omega
theorem flt_get : ∀ (lv : List Lf) (i : Nat), (flt lv).getD (2 * i) [] = (lv.getD i kv0).1 ∧ (flt lv).getD (2 * i + 1) [] = (lv.getD i kv0).2
 | [], i => by simp [flt, kv0]
 | x :: t, 0 => ⟨rfl, rfl⟩
 | x :: t, i + 1 => by
  have := flt_get t i
  rw [flt_cons, show 2 * (i + 1) = 2 * i + 1 + 1 by omega, show 2 * i + 1 + 1 + 1 = (2 * i + 1) + 1 + 1 by omega]
  simpa using this
theorem prs_flt (lv : List Lf) : prs (flt lv) lv.length = lv := by
 apply List.ext_getElem?
 intro i
 unfold prs
 rw [List.getElem?_map]
 by_cases h : i < lv.length
 ·rw [List.getElem?_range h, Option.map_some, (flt_get lv i).1, (flt_get lv i).2, List.getD_eq_getElem?_getD, List.getElem?_eq_getElem h]
  rfl
 ·rw [List.getElem?_eq_none (by rw [List.length_range]; omega), List.getElem?_eq_none omQ]
  rfl
theorem flt_snoc (lv : List Lf) (x : Lf) : flt (lv ++ [x]) = flt lv ++ [x.1, x.2] := by unfold flt; rw [List.flatMap_append]; rfl
theorem flt_take (lv : List Lf) {i : Nat} (h : i < lv.length) : flt (lv.take (i + 1)) = flt (lv.take i) ++ [(lv.getD i kv0).1, (lv.getD i kv0).2] := by
 rw [Ls.take_snoc kv0 h, flt_snoc]
theorem flt_mem {lv : List Lf} {p : List UInt8} (h : p ∈ flt lv) : ∃ x ∈ lv, p = x.1 ∨ p = x.2 := by
 obtain ⟨x, hx, hp⟩ := List.mem_flatMap.1 h
 refine ⟨x, hx, ?_⟩
 simpa using hp
def Rg (n : Int) : Prop := -9223372036854775808 ≤ n ∧ n ≤ 9223372036854775807
def okE (q : Pf) : Prop := Rg q.fst ∧ Rg q.sz ∧ smP q 1000 1000
theorem ints2 {q : Pf} (h : okE q) : ∀ x ∈ [q.fst, q.sz], -9223372036854775808 ≤ x ∧ x ≤ 9223372036854775807 := fun x hx => by
 simp only [List.mem_cons, List.not_mem_nil, or_false] at hx
 rcases hx with rfl | rfl
 ·exact h.1
 ·exact h.2.1
theorem okE_str {q : Pf} (h : okE q) : (flt q.lv).length ≤ 2000 ∧ ∀ p ∈ flt q.lv, p.length ≤ 1000 := by
 refine ⟨by rw [flt_len]; have := h.2.2.1; omega, fun p hp => ?_⟩
 obtain ⟨x, hx, hp⟩ := flt_mem hp
 have := h.2.2.2.2.1 x hx
 rcases hp with rfl | rfl
 ·exact this.1
 ·exact this.2
theorem rt_pf {q : Pf} (h : okE q) (t : List UInt8) : decPf (encPf q ++ t) = (q, ((encPf q).length : Int), 0) := by
 have hs := okE_str h
 have hd := h.2.2
 have h1 : Wi.getList Wi.getInt (encPf q ++ t) = ([q.fst, q.sz], ((Wi.ints [q.fst, q.sz]).length : Int), 0) := by
  unfold encPf; rw [List.append_assoc, List.append_assoc]; exact Wi.ints_rtt [q.fst, q.sz] (show 2 < 9223372036854775808 by decide) (ints2 h) _
 have e1 : (encPf q ++ t).drop ((Wi.ints [q.fst, q.sz]).length : Int).toNat = Wi.strs (flt q.lv) ++ (Wi.dgs q.sd ++ t) := by
  unfold encPf; rw [List.append_assoc, List.append_assoc, Int.toNat_natCast, List.drop_left' rfl]
 have h2 : Wi.getList Wi.getBytes ((encPf q ++ t).drop ((Wi.ints [q.fst, q.sz]).length : Int).toNat) = (flt q.lv, ((Wi.strs (flt q.lv)).length : Int), 0) := by
  rw [e1]; exact Wi.strs_rtt _ omQ (fun x hx => by have := hs.2 x hx; omega) _
 have e2 : (encPf q ++ t).drop (((Wi.ints [q.fst, q.sz]).length : Int) + ((Wi.strs (flt q.lv)).length : Int)).toNat = Wi.dgs q.sd ++ t := by
  unfold encPf
  rw [show (((Wi.ints [q.fst, q.sz]).length : Int) + ((Wi.strs (flt q.lv)).length : Int)).toNat = (Wi.ints [q.fst, q.sz] ++ Wi.strs (flt q.lv)).length by rw [List.length_append]; omega, List.append_assoc, List.drop_left' rfl]
 have h3 : Wi.getDigs ((encPf q ++ t).drop (((Wi.ints [q.fst, q.sz]).length : Int) + ((Wi.strs (flt q.lv)).length : Int)).toNat) = (q.sd, ((Wi.dgs q.sd).length : Int), 0) := by
  rw [e2]; exact Wi.digs_rt _ (by have := hd.2.1; omega) hd.2.2.2 _
 have hl := flt_len q.lv
 rw [dec_6 h1 rfl rfl h2 rfl omQ h3 rfl]
 refine Prod.ext ?_ (Prod.ext ?_ rfl)
 ·show (⟨q.fst, q.sz, prs (flt q.lv) ((flt q.lv).length / 2), q.sd⟩ : Pf) = q
  rw [show (flt q.lv).length / 2 = q.lv.length by omega, prs_flt]
 ·show ((Wi.ints [q.fst, q.sz]).length : Int) + ((Wi.strs (flt q.lv)).length : Int) + ((Wi.dgs q.sd).length : Int) = ((encPf q).length : Int)
  unfold encPf; rw [List.length_append, List.length_append]; omega
theorem take_app {α : Type} (a b : List α) {k : Nat} (h : a.length ≤ k) : (a ++ b).take k = a ++ b.take (k - a.length) := by
 rw [List.take_append, List.take_of_length_le h]
theorem cut_pf {q : Pf} (h : okE q) {k : Nat} (hk : k < (encPf q).length) : ¬ (decPf ((encPf q).take k)).2.2 = 0 := by
 have hs := okE_str h
 have hd := h.2.2
 have hl := flt_len q.lv
 have hlen : (encPf q).length = (Wi.ints [q.fst, q.sz]).length + (Wi.strs (flt q.lv)).length + (Wi.dgs q.sd).length := by unfold encPf; rw [List.length_append, List.length_append]
 have e0 : encPf q = Wi.ints [q.fst, q.sz] ++ (Wi.strs (flt q.lv) ++ Wi.dgs q.sd) := by unfold encPf; rw [List.append_assoc]
 by_cases h1 : k < (Wi.ints [q.fst, q.sz]).length
 ·have e : (encPf q).take k = (Wi.ints [q.fst, q.sz]).take k := by rw [e0, List.take_append, show k - (Wi.ints [q.fst, q.sz]).length = 0 by omega, List.take_zero, List.append_nil]
  have := Wi.ints_sh [q.fst, q.sz] (show 2 < 9223372036854775808 by decide) (ints2 h) k h1
  rw [e, dec_1 (A := (Wi.getList Wi.getInt ((Wi.ints [q.fst, q.sz]).take k)).1) (an := (Wi.getList Wi.getInt ((Wi.ints [q.fst, q.sz]).take k)).2.1) (ae := (Wi.getList Wi.getInt ((Wi.ints [q.fst, q.sz]).take k)).2.2) rfl omQ]
  dsimp only; omega
 have e : (encPf q).take k = Wi.ints [q.fst, q.sz] ++ (Wi.strs (flt q.lv) ++ Wi.dgs q.sd).take (k - (Wi.ints [q.fst, q.sz]).length) := by rw [e0, take_app _ _ omQ]
 obtain ⟨j, hj⟩ : ∃ j, j = k - (Wi.ints [q.fst, q.sz]).length := ⟨_, rfl⟩
 rw [← hj] at e
 have g1 : Wi.getList Wi.getInt ((encPf q).take k) = ([q.fst, q.sz], ((Wi.ints [q.fst, q.sz]).length : Int), 0) := by rw [e]; exact Wi.ints_rtt [q.fst, q.sz] (show 2 < 9223372036854775808 by decide) (ints2 h) _
 have d1 : ((encPf q).take k).drop ((Wi.ints [q.fst, q.sz]).length : Int).toNat = (Wi.strs (flt q.lv) ++ Wi.dgs q.sd).take j := by rw [e, Int.toNat_natCast, List.drop_left' rfl]
 by_cases h2 : j < (Wi.strs (flt q.lv)).length
 ·have e2 : (Wi.strs (flt q.lv) ++ Wi.dgs q.sd).take j = (Wi.strs (flt q.lv)).take j := by rw [List.take_append, show j - (Wi.strs (flt q.lv)).length = 0 by omega, List.take_zero, List.append_nil]
  have := Wi.strs_sh (flt q.lv) omQ (fun x hx => by have := hs.2 x hx; omega) j h2
  have g2 : (Wi.getList Wi.getBytes (((encPf q).take k).drop ((Wi.ints [q.fst, q.sz]).length : Int).toNat)).2.2 = 3 := by rw [d1, e2]; exact this
  rw [dec_3 (S := (Wi.getList Wi.getBytes (((encPf q).take k).drop ((Wi.ints [q.fst, q.sz]).length : Int).toNat)).1) (sn := (Wi.getList Wi.getBytes (((encPf q).take k).drop ((Wi.ints [q.fst, q.sz]).length : Int).toNat)).2.1) (se := (Wi.getList Wi.getBytes (((encPf q).take k).drop ((Wi.ints [q.fst, q.sz]).length : Int).toNat)).2.2) g1 rfl rfl rfl omQ]
  dsimp only; omega
 obtain ⟨m, hm⟩ : ∃ m, m = j - (Wi.strs (flt q.lv)).length := ⟨_, rfl⟩
 have e2 : (Wi.strs (flt q.lv) ++ Wi.dgs q.sd).take j = Wi.strs (flt q.lv) ++ (Wi.dgs q.sd).take m := by rw [take_app _ _ omQ, hm]
 have g2 : Wi.getList Wi.getBytes (((encPf q).take k).drop ((Wi.ints [q.fst, q.sz]).length : Int).toNat) = (flt q.lv, ((Wi.strs (flt q.lv)).length : Int), 0) := by
  rw [d1, e2]; exact Wi.strs_rtt _ omQ (fun x hx => by have := hs.2 x hx; omega) _
 have d2 : ((encPf q).take k).drop (((Wi.ints [q.fst, q.sz]).length : Int) + ((Wi.strs (flt q.lv)).length : Int)).toNat = (Wi.dgs q.sd).take m := by
  rw [e, e2, show (((Wi.ints [q.fst, q.sz]).length : Int) + ((Wi.strs (flt q.lv)).length : Int)).toNat = (Wi.ints [q.fst, q.sz] ++ Wi.strs (flt q.lv)).length by rw [List.length_append]; omega, ← List.append_assoc, List.drop_left' rfl]
 have g3 : (Wi.getDigs (((encPf q).take k).drop (((Wi.ints [q.fst, q.sz]).length : Int) + ((Wi.strs (flt q.lv)).length : Int)).toNat)).2.2 = 3 := by
  rw [d2]; exact Wi.digs_short _ (by have := hd.2.1; omega) hd.2.2.2 m omQ
 rw [dec_5 (D := (Wi.getDigs (((encPf q).take k).drop (((Wi.ints [q.fst, q.sz]).length : Int) + ((Wi.strs (flt q.lv)).length : Int)).toNat)).1) (dn := (Wi.getDigs (((encPf q).take k).drop (((Wi.ints [q.fst, q.sz]).length : Int) + ((Wi.strs (flt q.lv)).length : Int)).toNat)).2.1) (de := (Wi.getDigs (((encPf q).take k).drop (((Wi.ints [q.fst, q.sz]).length : Int) + ((Wi.strs (flt q.lv)).length : Int)).toNat)).2.2) g1 rfl rfl g2 rfl omQ rfl omQ]
 dsimp only; omega
theorem enc_pos (q : Pf) : 0 < (encPf q).length := by
 unfold encPf
 have := Wi.int_len9 ([q.fst, q.sz].length : Int)
 rw [List.length_append, List.length_append]
 unfold Wi.ints
 rw [List.length_append]
 omega
end Mk
end Go.Fw
end

section
/- What MerkleCodes uses. -/
namespace Go.Fw
namespace Mk
theorem bent_rg {q : Pf} {how b : Int} (h1 : Rg q.fst) (h2 : Rg q.sz) (hb : Rg b) : Rg (bent q how b).fst ∧ Rg (bent q how b).sz := by
 have hw : ∀ x, Rg (wr x) := fun x => wr_bd x
 have h4 := Gu.arnd_range (n := b) (m := 4) omQ
 have key : ∀ (h : Int) {A0 A1 A2 A3 A4 A5 A6 A7 A8 A9 A10 : Pf} (P : Pf → Prop), P A0 → P A1 → P A2 → P A3 → P A4 → P A5 → P A6 → P A7 → P A8 → P A9 → P A10 → P (if h = 0 then A0 else if h = 1 then A1 else if h = 2 then A2 else if h = 3 then A3 else if h = 4 then A4 else if h = 5 then A5 else if h = 6 then A6 else if h = 7 then A7 else if h = 8 then A8 else if h = 9 then A9 else A10) := by
  intro h _ _ _ _ _ _ _ _ _ _ _ P p0 p1 p2 p3 p4 p5 p6 p7 p8 p9 p10
  by_cases e0 : h = 0
  ·rw [if_pos e0]; exact p0
  rw [if_neg e0]
  by_cases e1 : h = 1
  ·rw [if_pos e1]; exact p1
  rw [if_neg e1]
  by_cases e2 : h = 2
  ·rw [if_pos e2]; exact p2
  rw [if_neg e2]
  by_cases e3 : h = 3
  ·rw [if_pos e3]; exact p3
  rw [if_neg e3]
  by_cases e4 : h = 4
  ·rw [if_pos e4]; exact p4
  rw [if_neg e4]
  by_cases e5 : h = 5
  ·rw [if_pos e5]; exact p5
  rw [if_neg e5]
  by_cases e6 : h = 6
  ·rw [if_pos e6]; exact p6
  rw [if_neg e6]
  by_cases e7 : h = 7
  ·rw [if_pos e7]; exact p7
  rw [if_neg e7]
  by_cases e8 : h = 8
  ·rw [if_pos e8]; exact p8
  rw [if_neg e8]
  by_cases e9 : h = 9
  ·rw [if_pos e9]; exact p9
  rw [if_neg e9]
  exact p10
 have tw : ∀ (c : Prop) [Decidable c] {A B : Pf}, (Rg A.fst ∧ Rg A.sz) → (Rg B.fst ∧ Rg B.sz) → Rg (if c then A else B).fst ∧ Rg (if c then A else B).sz := by
  intro c _ A B pa pb
  by_cases e : c
  ·rw [if_pos e]; exact pa
  ·rw [if_neg e]; exact pb
 have h3 : Rg (([b, 4096, 4097, -1] : List Int).getD (Gu.arnd b 4).toNat 0) := by
  have hj : (Gu.arnd b 4).toNat = 0 ∨ (Gu.arnd b 4).toNat = 1 ∨ (Gu.arnd b 4).toNat = 2 ∨ (Gu.arnd b 4).toNat = 3 := by omega
  rcases hj with e | e | e | e <;> rw [e]
  ·exact hb
  ·show Rg 4096; unfold Rg; omega
  ·show Rg 4097; unfold Rg; omega
  ·show Rg (-1); unfold Rg; omega
 unfold bent
 exact key (Gu.arnd how 11) (fun q => Rg q.fst ∧ Rg q.sz) ⟨hw _, h2⟩ ⟨h1, hw _⟩ ⟨h1, h3⟩ ⟨hb, h2⟩ (tw _ ⟨h1, h2⟩ ⟨h1, h2⟩) (tw _ ⟨h1, h2⟩ ⟨h1, h2⟩) (tw _ ⟨h1, h2⟩ ⟨h1, h2⟩) ⟨h1, h2⟩ (tw _ ⟨h1, h2⟩ ⟨h1, h2⟩) (tw _ ⟨h1, h2⟩ ⟨h1, h2⟩) ⟨h1, h2⟩
theorem rg0 : Rg 0 := by unfold Rg; omega
theorem prov_rg {ls : List Lf} {k : List UInt8} (hl : ls.length ≤ 1000) : Rg (provE ls k).1.fst ∧ Rg (provE ls k).1.sz := by
 have hf := frm_le ls k
 by_cases h : vE ls = 0
 ·cases hf : fnd ls k with
  | true => rw [provE_t h hf]; unfold shown Rg; dsimp only; omega
  | false => rw [provE_f h hf]; unfold shown Rg; dsimp only; omega
 ·rw [provE_e h]; exact ⟨rg0, rg0⟩
def smE (q : Pf) : Prop := Rg q.fst ∧ Rg q.sz ∧ smP q 20 20
theorem smE_ok {q : Pf} (h : smE q) : okE q := ⟨h.1, h.2.1, smP_mono h.2.2 deQ deQ⟩
theorem enc_sm {q : Pf} (h : smE q) : (encPf q).length ≤ 2000 := by
 have hs : (flt q.lv).length ≤ 40 ∧ ∀ p ∈ flt q.lv, p.length ≤ 20 := by
  refine ⟨by rw [flt_len]; have := h.2.2.1; omega, fun p hp => ?_⟩
  obtain ⟨x, hx, hp⟩ := flt_mem hp
  have := h.2.2.2.2.1 x hx
  rcases hp with rfl | rfl
  ·exact this.1
  ·exact this.2
 have h1 := Wi.ints_len2 [q.fst, q.sz]
 have h2 := Wi.strs_len9 (flt q.lv) hs.2
 have h3 := Wi.dgs_len9 q.sd h.2.2.2.2.2
 have h4 := h.2.2.2.1
 have h5 : (flt q.lv).length * (20 + 9) ≤ 40 * (20 + 9) := Nat.mul_le_mul_right _ hs.1
 have h6 : [q.fst, q.sz].length = 2 := rfl
 unfold encPf
 rw [List.length_append, List.length_append]
 omega
theorem four_sm {A B C D : Pf} (h1 : smE A) (h2 : smE B) (h3 : smE C) (h4 : smE D) : ∀ j, smE (([A, B, C, D] : List Pf).getD j pf0)
 | 0 => h1
 | 1 => h2
 | 2 => h3
 | 3 => h4
 | _ + 4 => ⟨rg0, rg0, pf0_sm _ _⟩
theorem five_len {m : Nat} {A B C D E : List UInt8} (h1 : A.length ≤ m) (h2 : B.length ≤ m) (h3 : C.length ≤ m) (h4 : D.length ≤ m) (h5 : E.length ≤ m) : ∀ j, (([A, B, C, D, E] : List (List UInt8)).getD j []).length ≤ m
 | 0 => h1
 | 1 => h2
 | 2 => h3
 | 3 => h4
 | 4 => h5
 | _ + 5 => Nat.zero_le _
end Mk
end Go.Fw
end
