/- A text of a proof over this seat: walks over the program's functions and the plain laws that they need. -/
import Derived.Test.YtngcjojijaknnaaGreatDoorFwA
import Derived.Test.YtngcjojijaknnaaGreatDoorFwC
set_option linter.all false
section
/- Plain laws of the package guilt and what it stands on. -/
namespace Go.Fw
namespace Gu
def ixF (p : Int → Bool) (xs : List Int) : Int := match xs.findIdx? p with
 | some k => k
 | none => -1
theorem ixF_at {p : Int → Bool} {xs : List Int} {i : Nat} (hi : i < xs.length) (hp : p (xs.getD i 0) = true) (hn : ∀ j, j < i → p (xs.getD j 0) = false) : ixF p xs = i := by
 have : xs.findIdx? p = some i := by
  rw [List.findIdx?_eq_some_iff_getElem]
  refine ⟨hi, by simpa [hi] using hp, fun j hj => ?_⟩
  have := hn j hj
  have hj' : j < xs.length := by omega
  simpa [hj'] using this
 unfold ixF
 rw [this]
theorem ixF_no {p : Int → Bool} {xs : List Int} (hn : ∀ j, j < xs.length → p (xs.getD j 0) = false) : ixF p xs = -1 := by
 have : xs.findIdx? p = none := by
  rw [List.findIdx?_eq_none_iff]
  intro x hx
  obtain ⟨j, hj, rfl⟩ := List.mem_iff_getElem.1 hx
  have := hn j hj
  simpa [hj] using this
 unfold ixF
 rw [this]
theorem ixF_any (p : Int → Bool) (xs : List Int) : decide (0 ≤ ixF p xs) = xs.any p := by
 unfold ixF
 cases h : xs.findIdx? p with
 | none =>
  have h := List.findIdx?_eq_none_iff.1 h
  have : xs.any p = false := List.any_eq_false.2 fun x hx => by simp [h x hx]
  rw [this]; rfl
 | some k =>
  obtain ⟨h1, h2, _⟩ := List.findIdx?_eq_some_iff_getElem.1 h
  have : xs.any p = true := List.any_eq_true.2 ⟨_, List.getElem_mem h1, h2⟩
  rw [this]
  simp
theorem ixF_mem (n : Int) (xs : List Int) : decide (0 ≤ ixF (fun x => decide (n = x)) xs) = decide (n ∈ xs) := by
 rw [ixF_any]
 by_cases h : n ∈ xs
 ·rw [decide_eq_true h]
  exact List.any_eq_true.2 ⟨n, h, by simp⟩
 ·rw [decide_eq_false h]
  exact List.any_eq_false.2 fun x hx => by simp; rintro rfl; exact h hx
theorem none_step {p : Int → Bool} {xs : List Int} {i : Int} (hi : 0 ≤ i) (hp : p (xs.getD i.toNat 0) = false) (hn : ∀ j, j < i.toNat → p (xs.getD j 0) = false) : ∀ j, j < (i + 1).toNat → p (xs.getD j 0) = false := fun j hj => by
 rcases Nat.lt_or_ge j i.toNat with h | h
 ·exact hn j h
 ·obtain rfl : j = i.toNat := by omega
  exact hp
def fltr (p : Int → Int → Bool) (l : List Int) : Nat → List Int
 | 0 => []
 | k + 1 => if p k (l.getD k 0) && !decide (l.getD k 0 ∈ fltr p l k) then fltr p l k ++ [l.getD k 0] else fltr p l k
def extr (b : Int → Int → Bool) (l : List Int) : Nat → List Int
 | 0 => []
 | k + 1 => if !decide (l.getD k 0 ∈ extr b l k) && !(l.any fun t => !decide (t = l.getD k 0) && b t (l.getD k 0)) then extr b l k ++ [l.getD k 0] else extr b l k
def wi (a b : Int) : Bool := decide (iand a b = a)
end Gu
end Go.Fw
end

section
namespace Go.Fw
namespace Gu
def fitsB (s : Nat) (xb bs : List Bool) : Bool := decide (bs.length = s) && decide (xb.length = s) && (List.range bs.length).all fun j => !(bs.getD j false && !xb.getD j false)
def mkd (xs : List Int) (bs : List Bool) : Nat → List Int
 | 0 => []
 | k + 1 => if bs.getD k false then mkd xs bs k ++ [xs.getD k 0] else mkd xs bs k
def minl (xs : List Int) (bs : List Bool) : List Int := extr wi (mkd xs bs xs.length) (mkd xs bs xs.length).length
def undr (xs : List Int) (bs : List Bool) (x : Int) (k : Nat) : Bool := (List.range k).any fun j => bs.getD j false && !decide (xs.getD j 0 = x) && wi (xs.getD j 0) x
def rmin (xs : List Int) (bs : List Bool) : Nat → List Int
 | 0 => []
 | k + 1 => if (bs.getD k false && !decide (xs.getD k 0 ∈ rmin xs bs k)) && !undr xs bs (xs.getD k 0) xs.length then rmin xs bs k ++ [xs.getD k 0] else rmin xs bs k
def gl (xs : List Int) (xb bs : List Bool) : List Int := if fitsB xs.length xb bs then minl xs bs else []
def ge (xs : List Int) (xb bs : List Bool) : Int := if fitsB xs.length xb bs then 0 else 1
end Gu
end Go.Fw
end

section
namespace Go.Fw
namespace Ls
theorem take_step {α : Type} (d : α) {a b : List α} {i : Nat} (ha : i < a.length) (hb : i < b.length) (h : a.take i = b.take i) : a.take (i + 1) = b.take (i + 1) ↔ a.getD i d = b.getD i d := by
 rw [List.take_succ_eq_append_getElem ha, List.take_succ_eq_append_getElem hb, h, List.getD_eq_getElem?_getD, List.getD_eq_getElem?_getD, List.getElem?_eq_getElem ha, List.getElem?_eq_getElem hb]
 constructor
 ·intro h1
  have := List.append_cancel_left h1
  injection this
 ·intro h1
  have h2 : a[i] = b[i] := h1
  rw [h2]
theorem same_len {α : Type} [DecidableEq α] {a b : List α} (h : ¬ (a.length : Int) = b.length) : Value.bool false = .bool (decide (a = b)) := by
 rw [decide_eq_false (fun e => h (by rw [e]))]
theorem same_ne {α : Type} [DecidableEq α] {a b : List α} (d : α) {i : Int} (h : ¬ a.getD i.toNat d = b.getD i.toNat d) : Value.bool false = .bool (decide (a = b)) := by
 rw [decide_eq_false (fun e => h (by rw [e]))]
theorem same_eq {α : Type} [DecidableEq α] {a b : List α} {i : Int} (hl : (a.length : Int) = b.length) (hi : ¬ i < a.length) (h : a.take i.toNat = b.take i.toNat) : Value.bool true = .bool (decide (a = b)) := by
 rw [List.take_of_length_le (by omega), List.take_of_length_le (by omega)] at h
 rw [decide_eq_true h]
theorem same_step {α : Type} (d : α) {a b : List α} {i : Int} (h0 : 0 ≤ i) (ha : i < a.length) (hl : (a.length : Int) = b.length) (he : a.getD i.toNat d = b.getD i.toNat d) (h : a.take i.toNat = b.take i.toNat) : a.take (i + 1).toNat = b.take (i + 1).toNat := by
 rw [show (i + 1).toNat = i.toNat + 1 by omega]
 exact (take_step d (by omega) (by omega) h).2 he
theorem getD_some {α : Type} (d : α) {l : List α} {i : Nat} (h : i < l.length) : l[i]? = some (l.getD i d) := by
 rw [List.getD_eq_getElem?_getD, List.getElem?_eq_getElem h]; rfl
end Ls
end Go.Fw
end

section
namespace Go.Fw
namespace Gu
def older (xs : List Int) (bs : List Bool) : Bool := (List.range bs.length).any fun j => bs.getD j false && decide (xs.getD j 0 = 0)
def gOld (xs : List Int) (xb bs : List Bool) : Bool := fitsB xs.length xb bs && older xs bs
def arnd (n m : Int) : Int := (if n < 0 then -(n + 1) else n) % m
theorem arnd_range {n m : Int} (hm : 0 < m) : 0 ≤ arnd n m ∧ arnd n m < m := by
 unfold arnd
 exact ⟨Int.emod_nonneg _ (by omega), Int.emod_lt_of_pos _ hm⟩
def atN (l : List Int) (i m : Int) : Int := if i < 0 ∨ (l.length : Int) ≤ i then 0 else arnd (l.getD i.toNat 0) m
end Gu
end Go.Fw
end

section
namespace Go.Fw
namespace Gu
def insd (l : List Int) (s : Int) (k : Nat) : List Int := (l.take k).filter fun y => wi y s
theorem take_snoc' {l : List Int} {k : Nat} (h : k < l.length) : l.take (k + 1) = l.take k ++ [l.getD k 0] := by
 rw [List.take_add_one, List.getElem?_eq_getElem h, List.getD_eq_getElem?_getD, List.getElem?_eq_getElem h]
 rfl
def hp (xb bs : List Bool) (g : List Int) (i x : Int) : Bool := (xb.getD i.toNat false && !bs.getD i.toNat false) && g.any fun y => wi y x
def hid (xs : List Int) (xb bs : List Bool) : List Int := if fitsB xs.length xb bs then fltr (hp xb bs (gl xs xb bs)) xs xs.length else []
def hds (xs : List Int) (xb bs : List Bool) (s : Int) : List Int := if s ∈ hid xs xb bs then (gl xs xb bs).filter fun y => wi y s else []
def hde (xs : List Int) (xb bs : List Bool) (s : Int) : Int := if fitsB xs.length xb bs then (if s ∈ hid xs xb bs then 0 else 6) else 1
end Gu
end Go.Fw
namespace Go.Fw
namespace Gu
variable {xs : List Int} {xb bs : List Bool} {s : Int}
def inr (xs : List Int) (s : Int) : Nat → Int
 | 0 => 0
 | k + 1 => if wi (xs.getD k 0) s then ior (inr xs s k) (xs.getD k 0) else inr xs s k
end Gu
end Go.Fw
end

section
namespace Go.Fw
namespace Gu
def del (s y : Int) : Bool := decide (y = s) || !wi y s
def kept (s : Int) (xs : List Int) : List Int := xs.filter fun y => !del s y
structure Dst (s : Int) (xs ys : List Int) (i j : Int) : Prop where
 i0 : 0 ≤ i ∧ i < j ∧ j ≤ xs.length
 len : ys.length = xs.length
 head : ys.take i.toNat = kept s (xs.take j.toNat)
 tail : ys.drop j.toNat = xs.drop j.toNat
def blw (xs : List Int) (s : Int) : List Int := extr (fun a b => wi b a) (kept s xs) (kept s xs).length
theorem kept_all {s : Int} {xs : List Int} (h : ∀ x ∈ xs, del s x = false) : kept s xs = xs := List.filter_eq_self.2 fun x hx => by rw [h x hx]; rfl
theorem Dst.start {s : Int} {xs : List Int} {i : Int} (hi : 0 ≤ i ∧ i < xs.length) (hp : del s (xs.getD i.toNat 0) = true) (hn : ∀ j, j < i.toNat → del s (xs.getD j 0) = false) : Dst s xs xs i (i + 1) := by
 refine ⟨by omega, rfl, ?_, rfl⟩
 rw [show (i + 1).toNat = i.toNat + 1 by omega, take_snoc' (by omega), kept, List.filter_append, List.filter_cons, if_neg (by rw [hp]; decide), List.filter_nil, List.append_nil]
 refine (kept_all (s := s) fun x hx => ?_).symm
 obtain ⟨j, hj, rfl⟩ := List.mem_iff_getElem.1 hx
 rw [List.length_take] at hj
 have := hn j (by omega)
 rw [List.getElem_take]
 rwa [List.getD_eq_getElem?_getD, List.getElem?_eq_getElem (by omega)] at this
theorem Dst.get {s : Int} {xs ys : List Int} {i j : Int} (h : Dst s xs ys i j) (hj : j < xs.length) : ys.getD j.toNat 0 = xs.getD j.toNat 0 := by
 have := congrArg (·[0]?) h.tail
 simp only [List.getElem?_drop, Nat.add_zero] at this
 rw [List.getD_eq_getElem?_getD, List.getD_eq_getElem?_getD, this]
theorem Dst.skip {s : Int} {xs ys : List Int} {i j : Int} (h : Dst s xs ys i j) (hj : j < xs.length) (hp : del s (ys.getD j.toNat 0) = true) : Dst s xs ys i (j + 1) := by
 have hg := h.get hj
 rw [hg] at hp
 have := h.i0
 refine ⟨by omega, h.len, ?_, ?_⟩
 ·rw [h.head, show (j + 1).toNat = j.toNat + 1 by omega, take_snoc' (by omega)]
  unfold kept
  rw [List.filter_append, List.filter_cons, if_neg (by rw [hp]; decide), List.filter_nil, List.append_nil]
 ·have := congrArg (List.drop 1) h.tail
  rwa [List.drop_drop, List.drop_drop, show j.toNat + 1 = (j + 1).toNat by omega] at this
theorem Dst.keep {s : Int} {xs ys : List Int} {i j : Int} (h : Dst s xs ys i j) (hj : j < xs.length) (hp : del s (ys.getD j.toNat 0) = false) : Dst s xs (ys.set i.toNat (ys.getD j.toNat 0)) (i + 1) (j + 1) := by
 have hg := h.get hj
 have h0 := h.i0
 have hl := h.len
 refine ⟨by omega, by rw [List.length_set]; exact hl, ?_, ?_⟩
 ·rw [hg] at hp ⊢
  rw [show (i + 1).toNat = i.toNat + 1 by omega, show (j + 1).toNat = j.toNat + 1 by omega, take_snoc' (show j.toNat < xs.length by omega), List.take_set, List.take_add_one, List.getElem?_eq_getElem (by omega)]
  have hlt : (ys.take i.toNat).length = i.toNat := by rw [List.length_take]; omega
  rw [List.set_append_right _ _ (by omega), hlt, Nat.sub_self]
  simp only [Option.toList_some, List.set_cons_zero]
  rw [h.head]
  unfold kept
  rw [List.filter_append, List.filter_cons, if_pos (by rw [hp]; rfl), List.filter_nil]
 ·have := congrArg (List.drop 1) h.tail
  rw [List.drop_drop, List.drop_drop, show j.toNat + 1 = (j + 1).toNat by omega] at this
  rw [List.drop_set_of_lt (by omega)]
  exact this
theorem Dst.done {s : Int} {xs ys : List Int} {i j : Int} (h : Dst s xs ys i j) (hj : ¬ j < xs.length) : ys.take i.toNat = kept s xs := by
 have := h.i0
 rw [h.head, List.take_of_length_le (by omega)]
end Gu
end Go.Fw
end

section
namespace Go.Fw
namespace Gu
def btw (xs : List Int) (s x : Int) (k : Nat) : Bool := (List.range k).any fun j => ((!decide (xs.getD j 0 = s) && wi (xs.getD j 0) s) && !decide (xs.getD j 0 = x)) && wi x (xs.getD j 0)
def rblw (xs : List Int) (s : Int) : Nat → List Int
 | 0 => []
 | k + 1 => if ((!decide (xs.getD k 0 = s) && wi (xs.getD k 0) s) && !decide (xs.getD k 0 ∈ rblw xs s k)) && !btw xs s (xs.getD k 0) xs.length then rblw xs s k ++ [xs.getD k 0] else rblw xs s k
end Gu
end Go.Fw
namespace Go.Fw
namespace Gu
def eac (xb : List Bool) (m : List Int) : Nat → List Bool
 | 0 => []
 | k + 1 => eac xb m k ++ [xb.getD k false && decide (atN m k 3 = 1)]
end Gu
end Go.Fw
end

section
namespace Go.Fw
namespace Gu
def bld (xs : List Int) (xb : List Bool) (y : Int) : Bool := xb.getD (ixF (fun t => decide (y = t)) xs).toNat false
def okT (xs : List Int) (xb : List Bool) (g : Int) : Bool := decide (1 < (blw xs g).length) && (blw xs g).all (bld xs xb)
def tog (xs : List Int) (xb : List Bool) (gl : List Int) : Nat → List (List Int)
 | 0 => []
 | k + 1 => if okT xs xb (gl.getD k 0) then tog xs xb gl k ++ [gl.getD k 0 :: blw xs (gl.getD k 0)] else tog xs xb gl k
end Gu
end Go.Fw
namespace Go.Fw
namespace Gu
def bitB (s i : Int) : Bool := decide (iand (s / 2 ^ i.toNat) 1 = 1)
def size (s : Int) : Nat → Int
 | 0 => 0
 | k + 1 => if bitB s k then size s k + 1 else size s k
end Gu
end Go.Fw
end

section
namespace Go.Fw.Gu
def mkB (xs sets : List Int) : Nat → List Bool
 | 0 => List.replicate xs.length false
 | k + 1 => if 0 ≤ ixF (fun y => decide (sets.getD k 0 = y)) xs then (mkB xs sets k).set (ixF (fun y => decide (sets.getD k 0 = y)) xs).toNat true else mkB xs sets k
def exX : List Int := [0, 1, 4, 3, 5, 7]
def exB (b : Bool) : List Bool := [true, true, b, true, true, true]
end Go.Fw.Gu
namespace Go.Fw.Gu
end Go.Fw.Gu
end

section
namespace Go.Fw.Gu
def R64 (x : Int) : Prop := -9223372036854775808 ≤ x ∧ x ≤ 9223372036854775807
end Go.Fw.Gu
namespace Go.Fw.Gu
def Fam (xs : List Int) : Prop := xs.Nodup ∧ (∀ x ∈ xs, 0 ≤ x ∧ x < 32) ∧ xs.Pairwise fun a b => size a 64 ≤ size b 64
end Go.Fw.Gu
end

section
namespace Go.Fw.Gu
end Go.Fw.Gu
end

section
namespace Go.Fw.Gu
variable {xs : List Int} {M : List Bool} {k : Nat}
variable (hn : xs.Nodup) (hr : ∀ x ∈ xs, R64 x) (hk : k < xs.length) (hkM : k < M.length) (hu : M.getD k false = false)
include hn hr hk hkM hu
end Go.Fw.Gu
end

section
namespace Go.Fw.Gu
def ptX (xs : List Int) (s : Int) : Nat → List Int
 | 0 => []
 | k + 1 => if wi (xs.getD k 0) s then ptX xs s k ++ [xs.getD k 0] else ptX xs s k
def ptB (xs : List Int) (s : Int) (bs : List Bool) : Nat → List Bool
 | 0 => []
 | k + 1 => if wi (xs.getD k 0) s then ptB xs s bs k ++ [bs.getD k false] else ptB xs s bs k
end Go.Fw.Gu
namespace Go.Fw.Gu
end Go.Fw.Gu
end

section
namespace Go.Fw.Gu
def Up (xs : List Int) (xb M : List Bool) (i : Nat) : Prop := ∀ a, a < i → ∀ k, k < a → xb.getD a false = true → M.getD k false = true → wi (xs.getD k 0) (xs.getD a 0) = true → M.getD a false = true
def Upk (xs : List Int) (xb M : List Bool) (a k : Nat) : Prop := ∀ j, j < k → xb.getD a false = true → M.getD j false = true → wi (xs.getD j 0) (xs.getD a 0) = true → M.getD a false = true
def sizeT (x : Int) : Int := [0,1,1,2,1,2,2,3,1,2,2,3,2,3,3,4,1,2,2,3,2,3,3,4,2,3,3,4,3,4,4,5].getD x.toNat 0
section
variable {xs : List Int} {xb M : List Bool} (hn : xs.Nodup) (hr : ∀ x ∈ xs, R64 x) (hf : fitsB xs.length xb M = true)
include hn hf
end
end Go.Fw.Gu
namespace Go.Fw.Gu
end Go.Fw.Gu
end

section
namespace Go.Fw.Gu
def pm (f : Nat → Int) (n i : Nat) : List Int := (List.range n).map fun j => if j < i then f j else 0
def fstB (xb : List Bool) (ks : List (List UInt8)) (i : Nat) (key : List UInt8) : Option Nat := (List.range i).find? fun j => xb.getD j false && decide (ks.getD j [] = key)
def clsAt (xb : List Bool) (ks : List (List UInt8)) (i : Nat) : Int := if xb.getD i false then ((fstB xb ks (i + 1) (ks.getD i [])).map Int.ofNat).getD (-1) else -1
def cls (xb : List Bool) (ks : List (List UInt8)) : List Int := pm (clsAt xb ks) ks.length ks.length
theorem fstB_succ (xb : List Bool) (ks : List (List UInt8)) (i : Nat) (key : List UInt8) : fstB xb ks (i + 1) key = (fstB xb ks i key).or (if xb.getD i false && decide (ks.getD i [] = key) then some i else none) := by
 unfold fstB
 rw [List.range_succ, List.find?_append]
 congr 1
 rw [List.find?_cons, List.find?_nil]
 cases (xb.getD i false && decide (ks.getD i [] = key)) <;> rfl
theorem fstB_no {xb : List Bool} {ks : List (List UInt8)} {i : Nat} {key : List UInt8} (h : xb.getD i false = false) : fstB xb ks (i + 1) key = fstB xb ks i key := by
 rw [fstB_succ, h]; simp
theorem fstB_old {xb : List Bool} {ks : List (List UInt8)} {i : Nat} (h : (fstB xb ks i (ks.getD i [])).isSome = true) (key : List UInt8) : fstB xb ks (i + 1) key = fstB xb ks i key := by
 rw [fstB_succ]
 by_cases hk : ks.getD i [] = key
 ·subst hk
  obtain ⟨j, hj⟩ := Option.isSome_iff_exists.1 h
  rw [hj]; rfl
 ·rw [decide_eq_false hk, Bool.and_false]; simp
theorem fstB_new {xb : List Bool} {ks : List (List UInt8)} {i : Nat} (hb : xb.getD i false = true) (h : (fstB xb ks i (ks.getD i [])).isSome = false) (key : List UInt8) : fstB xb ks (i + 1) key = if key = ks.getD i [] then some i else fstB xb ks i key := by
 rw [fstB_succ, hb]
 by_cases hk : key = ks.getD i []
 ·subst hk
  rw [Option.isSome_eq_false_iff, Option.isNone_iff_eq_none] at h
  rw [h, if_pos rfl]
  simp
 ·rw [if_neg hk]
  have : ¬ ks.getD i [] = key := fun e => hk e.symm
  simp only [this, decide_false, Bool.and_false, Bool.false_eq_true, if_false, Option.or_none]
theorem clsAt_new {xb : List Bool} {ks : List (List UInt8)} {i : Nat} (hb : xb.getD i false = true) (h : (fstB xb ks i (ks.getD i [])).isSome = false) : clsAt xb ks i = i := by
 unfold clsAt
 rw [if_pos hb, fstB_new hb h, if_pos rfl]
 rfl
theorem clsAt_old {xb : List Bool} {ks : List (List UInt8)} {i j : Nat} (hb : xb.getD i false = true) (h : fstB xb ks i (ks.getD i []) = some j) : clsAt xb ks i = j := by
 unfold clsAt
 rw [if_pos hb, fstB_old (by rw [h]; rfl), h]
 rfl
def FstM (xb : List Bool) (ks : List (List UInt8)) (i : Nat) (ml : List (List UInt8 × Value)) : Prop := (∀ p ∈ ml, p.1.length = 16) ∧ ∀ key, aget ml key = (fstB xb ks i key).map fun j => vi (j : Int)
theorem FstM.start (xb : List Bool) (ks : List (List UInt8)) : FstM xb ks 0 [] := ⟨fun p h => (by cases h), fun key => rfl⟩
theorem FstM.no {xb : List Bool} {ks : List (List UInt8)} {i : Nat} {ml : List (List UInt8 × Value)} (h : FstM xb ks i ml) (hb : xb.getD i false = false) : FstM xb ks (i + 1) ml := ⟨h.1, fun key => by rw [fstB_no hb]; exact h.2 key⟩
theorem FstM.isS {xb : List Bool} {ks : List (List UInt8)} {i : Nat} {ml : List (List UInt8 × Value)} (h : FstM xb ks i ml) : (aget ml (ks.getD i [])).isSome = (fstB xb ks i (ks.getD i [])).isSome := by rw [h.2]; cases fstB xb ks i (ks.getD i []) <;> rfl
theorem FstM.old {xb : List Bool} {ks : List (List UInt8)} {i : Nat} {ml : List (List UInt8 × Value)} (h : FstM xb ks i ml) (hb : xb.getD i false = true) (hs : (aget ml (ks.getD i [])).isSome = true) : FstM xb ks (i + 1) ml ∧ aget ml (ks.getD i []) = Option.some (vi (clsAt xb ks i)) := by
 rw [h.isS] at hs
 refine ⟨⟨h.1, fun key => by rw [fstB_old hs]; exact h.2 key⟩, ?_⟩
 obtain ⟨j, hj⟩ := Option.isSome_iff_exists.1 hs
 rw [h.2, hj, clsAt_old hb hj]
 rfl
theorem aset_mem {a : List UInt8} {v : Value} : ∀ {l : List (List UInt8 × Value)} {p}, p ∈ aset a v l → p = (a, v) ∨ p ∈ l
 | [], p, h => by simp [aset] at h; exact .inl h
 | q :: l, p, h => by
  rw [aset] at h
  split at h
  ·rcases List.mem_cons.1 h with h | h
   ·exact .inl h
   ·exact .inr (List.mem_cons_of_mem _ h)
  ·rcases List.mem_cons.1 h with h | h
   ·exact .inr (by rw [h]; simp)
   ·rcases aset_mem h with h | h
    ·exact .inl h
    ·exact .inr (List.mem_cons_of_mem _ h)
theorem FstM.new {xb : List Bool} {ks : List (List UInt8)} {i : Nat} {ml : List (List UInt8 × Value)} (h : FstM xb ks i ml) (hk : (ks.getD i []).length = 16) (hb : xb.getD i false = true) (hs : (aget ml (ks.getD i [])).isSome = false) : FstM xb ks (i + 1) (aset (ks.getD i []) (vi (i : Int)) ml) ∧ clsAt xb ks i = i ∧ aget (aset (ks.getD i []) (vi (i : Int)) ml) (ks.getD i []) = Option.some (vi (i : Int)) := by
 rw [h.isS] at hs
 refine ⟨⟨fun p hp => ?_, fun key => ?_⟩, clsAt_new hb hs, by rw [aget_aset, if_pos rfl]⟩
 ·rcases aset_mem hp with rfl | hp
  ·exact hk
  ·exact h.1 p hp
 ·rw [aget_aset, fstB_new hb hs]
  split
  ·rfl
  ·exact h.2 key
end Go.Fw.Gu
namespace Go.Fw.Gu
def kyd (m : List Int) (i : Int) : List UInt8 := ofb (atN m i 6) :: List.replicate 15 0
def kys (m : List Int) (n : Nat) : List (List UInt8) := (List.range n).map fun (j : Nat) => kyd m (j : Int)
end Go.Fw.Gu
namespace Go.Fw.Gu
end Go.Fw.Gu
namespace Go.Fw.Gu
def dif (xb : List Bool) (ks : List (List UInt8)) (bs : List Bool) (i : Nat) : Bool := decide (0 ≤ clsAt xb ks i) && (bs.getD (clsAt xb ks i).toNat false != bs.getD i false)
def pv (xs : List Int) (xb : List Bool) (ks : List (List UInt8)) (bs : List Bool) : List Int × List Int × List Bool × Int :=
 if fitsB xs.length xb bs = true then
  if ks.length = xs.length then
   if ((List.range ks.length).any fun i => dif xb ks bs i) = true then ([], [], [], 16) else (gl xs xb bs, cls xb ks, bs, 0)
  else ([], [], [], 1)
 else ([], [], [], 1)
end Go.Fw.Gu
namespace Go.Fw.Gu
end Go.Fw.Gu
end

section
namespace Go.Fw.Gu
def mkq (bits : Int) (b : UInt8) : Bool := !decide ((bits / 2 ^ (min ((ofq (b.toNat : Int)).toNat : Int).toNat 64)).tmod 2 = 0)
def mrkAt (xb : List Bool) (ks : List (List UInt8)) (bits : Int) (j : Nat) : Bool := xb.getD j false && mkq bits ((ks.getD j []).getD 0 0)
def mrk (xb : List Bool) (ks : List (List UInt8)) (bits : Int) : Nat → List Bool
 | 0 => []
 | k + 1 => mrk xb ks bits k ++ [mrkAt xb ks bits k]
def knAt (F : List Int) (B : List Bool) (j : Nat) : Int := if F.getD j 0 = (j : Int) then (if B.getD j false then 2 else 1) else 0
def kn (F : List Int) (B : List Bool) : List Int := pm (knAt F B) F.length F.length
def ckm (k : Int) : Bool := decide (k < 0) || decide (2 < k)
def ckd (xb : List Bool) (ks : List (List UInt8)) (K : List Int) (B : List Bool) (i : Nat) : Bool := decide (0 ≤ clsAt xb ks i) && (decide (K.getD (clsAt xb ks i).toNat 0 = 0) || !(decide (K.getD (clsAt xb ks i).toNat 0 = 2) == B.getD i false))
def chk (xs : List Int) (xb : List Bool) (ks : List (List UInt8)) (K S F : List Int) (B : List Bool) : Int :=
 if (xb.length = xs.length ∧ ks.length = xs.length ∧ K.length = xs.length) ∧ K.any ckm = false then
  if (ge xs xb B = 0 ∧ gl xs xb B = S) ∧ cls xb ks = F then
   if ((List.range ks.length).any fun i => ckd xb ks K B i) = true then 17 else 0
  else 17
 else 1
section
variable {xs : List Int} {xb : List Bool} {ks : List (List UInt8)} {K S F : List Int} {B : List Bool}
end
end Go.Fw.Gu
namespace Go.Fw.Gu
end Go.Fw.Gu
end

section
namespace Go.Fw.Gu
def bK (B : List Bool) (b : Int) : Int := arnd b (max (B.length : Int) 1)
def bS (S : List Int) (h b : Int) : List Int := if arnd h 6 = 2 then S.tail else if arnd h 6 = 3 then S ++ [arnd b 32] else S
def bF (F : List Int) (B : List Bool) (h b : Int) : List Int :=
 if arnd h 6 = 1 then (if bK B b < F.length then F.set (bK B b).toNat (arnd b ((F.length : Int) + 2) - 1) else F)
 else if arnd h 6 = 5 then F ++ [b] else F
def bB (B : List Bool) (h b : Int) : List Bool :=
 if arnd h 6 = 0 then (if bK B b < B.length then B.set (bK B b).toNat (!B.getD (bK B b).toNat false) else B)
 else if arnd h 6 = 4 then B ++ [decide (b.tmod 2 = 0)] else B
section
variable {S F : List Int} {B : List Bool} {h b : Int}
end
end Go.Fw.Gu
end

section
namespace Go.Fw.Gu
section
variable {xs : List Int} {xb : List Bool} {ks : List (List UInt8)} {M : List Bool}
end
theorem arnd_self {k m : Int} (h0 : 0 ≤ k) (h1 : k < m) : arnd k m = k := by
 unfold arnd
 rw [if_neg (by omega)]
 exact Int.emod_eq_of_lt h0 h1
end Go.Fw.Gu
end
