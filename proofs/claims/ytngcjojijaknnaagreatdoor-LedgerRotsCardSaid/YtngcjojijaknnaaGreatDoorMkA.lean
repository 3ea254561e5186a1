/- A text of a proof over this seat: walks over the program's functions and the plain laws that they need. -/
import Derived.Test.YtngcjojijaknnaaGreatDoorShW
import Derived.Test.YtngcjojijaknnaaGreatDoorFwD
import Derived.Lib.Bytealg
import Derived.Test.YtngcjojijaknnaaGreatDoorGuA
set_option linter.all false
section
/- Keys in their order; rows of leaves, in plain words. -/
namespace Go.Fw
namespace Mk
/-- A key, a value. -/
abbrev Lf := List UInt8 × List UInt8
def lt (a b : List UInt8) : Bool := Op.bytesLess a b
end Mk
end Go.Fw
end

section
/- Trees of rows: digests, sides, and what is made of them. -/
namespace Go.Fw
namespace Mk
/-- The greatest power of two that is less than n. -/
def half (n : Nat) : Nat := 2 ^ Nat.log2 (n - 1)
abbrev Dg := List UInt8
def leafD (x : Lf) : Dg := Sha.ofD 3 [x.1, x.2]
def nodeD (a b : Dg) : Dg := Sha.ofD 4 [a, b]
def rootD (n : Nat) (d : Dg) : Dg := if n = 0 then Sha.ofD 4 [Wi.int 0] else Sha.ofD 4 [Wi.int n, d]
/-- The digest of a row, with fuel. -/
def rw_ : Nat → List Lf → Dg
  | 0, _ => []
  | f + 1, ls => if ls.length ≤ 1 then leafD (ls.getD 0 kv0) else nodeD (rw_ f (ls.take (half ls.length))) (rw_ f (ls.drop (half ls.length)))
def rowD (ls : List Lf) : Dg := rw_ ls.length ls
/-- The sides of a row that begins at a, with fuel. -/
def sd_ (first en : Nat) : Nat → List Lf → Nat → List Dg
  | 0, _, _ => []
  | f + 1, ls, a => if a + ls.length ≤ first ∨ en ≤ a then [rowD ls] else if ls.length ≤ 1 then [] else sd_ first en f (ls.take (half ls.length)) a ++ sd_ first en f (ls.drop (half ls.length)) (a + half ls.length)
def sidesD (first en : Nat) (ls : List Lf) (a : Nat) : List Dg := sd_ first en ls.length ls a
/-- What a proof makes of a row of n that begins at a: its digest, and the sides that are left; none: they are too few. -/
def cn_ (first : Nat) (lv : List Lf) : Nat → Nat → Nat → List Dg → Option (Dg × List Dg)
  | 0, _, _, _ => none
  | f + 1, n, a, sd =>
    if a + n ≤ first ∨ first + lv.length ≤ a then
      match sd with
      | [] => none
      | d :: t => some (d, t)
    else if n ≤ 1 then some (leafD (lv.getD (a - first) kv0), sd)
    else match cn_ first lv f (half n) a sd with
      | none => none
      | some (x, s1) => match cn_ first lv f (n - half n) (a + half n) s1 with
        | none => none
        | some (y, s2) => some (nodeD x y, s2)
def conD (first : Nat) (lv : List Lf) (n a : Nat) (sd : List Dg) : Option (Dg × List Dg) := cn_ first lv n n a sd
section
variable {first : Nat} {lv : List Lf} {n a : Nat} {sd : List Dg}
end
end Mk
end Go.Fw
end

section
/- Lists of leaves that are in order. -/
namespace Go.Fw
namespace Mk
def bigB (x : Lf) : Bool := decide (65536 < x.1.length) || decide (65536 < x.2.length)
/-- The first n keys rise. -/
def ascN (ls : List Lf) : Nat → Bool
  | 0 => true
  | n + 1 => ascN ls n && (decide (n = 0) || lt (ls.getD (n - 1) kv0).1 (ls.getD n kv0).1)
/-- What Valid says. -/
def vE (ls : List Lf) : Int := if 4096 < ls.length ∨ ls.any bigB = true then 4 else if ascN ls ls.length = true then 0 else 1
def Asc (ls : List Lf) : Prop := ∀ i, i + 1 < ls.length → lt (ls.getD i kv0).1 (ls.getD (i + 1) kv0).1 = true
/-- How many keys are less. -/
def frN (ls : List Lf) (k : List UInt8) : Nat → Nat
  | 0 => 0
  | n + 1 => frN ls k n + (if lt (ls.getD n kv0).1 k = true then 1 else 0)
def frm (ls : List Lf) (k : List UInt8) : Nat := frN ls k ls.length
/-- Where a key stands; none: it is not there. -/
def hasF (ls : List Lf) (k : List UInt8) : Option Nat := if frm ls k < ls.length ∧ (ls.getD (frm ls k) kv0).1 = k then some (frm ls k) else none
end Mk
end Go.Fw
end

section
/- What the small functions over leaves compute. -/
namespace Go.Fw
namespace Mk
def ixF (p : Lf → Bool) (xs : List Lf) : Int := match xs.findIdx? p with
  | some k => k
  | none => -1
theorem ixF_at {p : Lf → Bool} {xs : List Lf} {i : Nat} (hi : i < xs.length) (hp : p (xs.getD i kv0) = true) (hn : ∀ j, j < i → p (xs.getD j kv0) = false) : ixF p xs = i := by
  have : xs.findIdx? p = some i := by
    rw [List.findIdx?_eq_some_iff_getElem]
    refine ⟨hi, by simpa [hi] using hp, fun j hj => ?_⟩
    have := hn j hj
    have hj' : j < xs.length := by omega
    simpa [hj'] using this
  unfold ixF
  rw [this]
theorem ixF_no {p : Lf → Bool} {xs : List Lf} (hn : ∀ j, j < xs.length → p (xs.getD j kv0) = false) : ixF p xs = -1 := by
  have : xs.findIdx? p = none := by
    rw [List.findIdx?_eq_none_iff]
    intro x hx
    obtain ⟨j, hj, rfl⟩ := List.mem_iff_getElem.1 hx
    have := hn j hj
    simpa [hj] using this
  unfold ixF
  rw [this]
theorem ixF_any (p : Lf → Bool) (xs : List Lf) : decide (0 ≤ ixF p xs) = xs.any p := by
  unfold ixF
  cases h : xs.findIdx? p with
  | none =>
    have h := List.findIdx?_eq_none_iff.1 h
    have : xs.any p = false := List.any_eq_false.2 fun x hx => by simp [h x hx]
    rw [this]; rfl
  | some k =>
    obtain ⟨h1, h2, _⟩ := List.findIdx?_eq_some_iff_getElem.1 h
    have : xs.any p = true := List.any_eq_true.2 ⟨_, List.getElem_mem h1, h2⟩
    rw [this]
    exact decide_eq_true (Int.natCast_nonneg k)
theorem none_step {p : Lf → Bool} {xs : List Lf} {i : Int} (hi : 0 ≤ i) (hp : p (xs.getD i.toNat kv0) = false) (hn : ∀ j, j < i.toNat → p (xs.getD j kv0) = false) : ∀ j, j < (i + 1).toNat → p (xs.getD j kv0) = false := fun j hj => by
  rcases Nat.lt_or_ge j i.toNat with h | h
  · exact hn j h
  · obtain rfl : j = i.toNat := by omega
    exact hp
/-- A part of a list. -/
def sub (ls : List Lf) (a n : Nat) : List Lf := (ls.drop a).take n
theorem sub_drop {ls : List Lf} {a n k : Nat} : (sub ls a n).drop k = sub ls (a + k) (n - k) := by
  unfold sub; rw [List.drop_take, List.drop_drop]
end Mk
end Go.Fw
namespace Go.Fw
namespace Mk
theorem mid_eq {s : Int} (h0 : 0 ≤ s) (h1 : s < 4611686018427387904) : sgn (UInt64.ofNat ((ofq s).toNat / 2 ^ (min (1 : Int).toNat 64))) = s / 2 := by
  have e1 : (ofq s).toNat = s.toNat := by
    obtain ⟨n, rfl⟩ := Int.eq_ofNat_of_zero_le h0
    simp [ofq]
    omega
  rw [e1, show (2 : Nat) ^ (min (1 : Int).toNat 64) = 2 from rfl]
  have e2 : (UInt64.ofNat (s.toNat / 2)).toNat = s.toNat / 2 := by simp; omega
  unfold sgn
  rw [e2]
  rw [if_pos (by omega)]
  omega
end Mk
end Go.Fw
namespace Go.Fw
namespace Mk
/-- Whether a key is there. -/
def fnd (ls : List Lf) (k : List UInt8) : Bool := decide (frm ls k < ls.length) && decide ((ls.getD (frm ls k) kv0).1 = k)
end Mk
end Go.Fw
namespace Go.Fw
namespace Mk
theorem getD_in {xs : List Lf} {k : Nat} (h : k < xs.length) : xs.getD k kv0 ∈ xs := by rw [List.getD_eq_getElem?_getD, List.getElem?_eq_getElem h]; exact List.getElem_mem h
/-- What Root says. -/
def rootE (ls : List Lf) : Dg × Int := if vE ls = 0 then (rootD ls.length (rowD ls), 0) else (List.replicate 16 0, vE ls)
end Mk
end Go.Fw
namespace Go.Fw
namespace Mk
end Mk
end Go.Fw
namespace Go.Fw
namespace Mk
end Mk
end Go.Fw
namespace Go.Fw
namespace Mk
end Mk
end Go.Fw
end
