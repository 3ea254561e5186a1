/- The wire's encodings in plain words. -/
import Derived.Test.YtcolgcdnpfpcdaaSha3
set_option linter.all false
namespace Go.Fw
namespace Wi
/-- How many bytes m takes, at most k. -/
def nbF (m : UInt64) : Nat → Nat
  | 0 => 0
  | k + 1 => if m.toNat / 2 ^ (8 * k) = 0 then nbF m k else k + 1
def nb (m : UInt64) : Nat := nbF m 8
theorem nbF_le (m : UInt64) : ∀ k, nbF m k ≤ k
  | 0 => Nat.le_refl _
  | k + 1 => by unfold nbF; split; exact Nat.le_succ_of_le (nbF_le m k); exact Nat.le_refl _
theorem nb_le (m : UInt64) : nb m ≤ 8 := nbF_le m 8
def mOf (n : Int) : UInt64 := if n < 0 then ~~~(ofq n) else ofq n
def flOf (n : Int) : UInt8 := if n < 0 then 255 else 0
def digit (m : UInt64) (fl : UInt8) (i : Nat) : UInt8 := UInt8.ofNat (m.toNat / 2 ^ (8 * i)) ^^^ fl
/-- The digits i - 1 .. 0 are to come: those before. -/
def digsFrom (m : UInt64) (fl : UInt8) (k i : Nat) : List UInt8 := ((List.range (k - i)).map fun j => digit m fl (k - 1 - j))
/-- An integer. -/
def int (n : Int) : List UInt8 := (UInt8.ofNat (128 + nb (mOf n)) ^^^ flOf n) :: digsFrom (mOf n) (flOf n) (nb (mOf n)) 0
theorem int_len (n : Int) : (int n).length = 1 + nb (mOf n) := by simp [int, digsFrom]; omega
theorem int_len9 (n : Int) : 1 ≤ (int n).length ∧ (int n).length ≤ 9 := by have := int_len n; have := nb_le (mOf n); omega
/-- A string. -/
def bytes (s : List UInt8) : List UInt8 := int s.length ++ s
theorem digs_step (m : UInt64) (fl : UInt8) (k i : Nat) (h : i < k) : digsFrom m fl k (i + 1) ++ [digit m fl i] = digsFrom m fl k i := by
  unfold digsFrom
  rw [show k - i = (k - (i + 1)) + 1 by omega, List.range_succ, List.map_append]
  congr 1
  simp
  congr 1
  omega
theorem digs_len (m : UInt64) (fl : UInt8) (k i : Nat) : (digsFrom m fl k i).length = k - i := by simp [digsFrom]
theorem digit_q (m : UInt64) (fl : UInt8) (i : Int) (h : 0 ≤ i ∧ i < 8) : ofb ((UInt64.ofNat (m.toNat / 2 ^ (min (8 * i).toNat 64))).toNat : Int) ^^^ fl = digit m fl i.toNat := by
  have e : min (8 * i).toNat 64 = 8 * i.toNat := by omega
  rw [e]
  unfold digit
  congr 1
  have h1 : m.toNat / 2 ^ (8 * i.toNat) < 18446744073709551616 := Nat.lt_of_le_of_lt (Nat.div_le_self _ _) (by have := m.toNat_lt; omega)
  have h2 : (UInt64.ofNat (m.toNat / 2 ^ (8 * i.toNat))).toNat = m.toNat / 2 ^ (8 * i.toNat) := by
    rw [UInt64.toNat_ofNat']
    exact Nat.mod_eq_of_lt h1
  rw [h2]
  apply UInt8.toNat.inj
  have h3 := ofb_toNat ((m.toNat / 2 ^ (8 * i.toNat) : Nat) : Int)
  rw [UInt8.toNat_ofNat']
  omega
/-- Is the digit before k nought? -/
theorem top_q (m : UInt64) (k : Nat) (h : k < 8) : (0 : UInt64) < UInt64.ofNat (m.toNat / 2 ^ (min (8 * (k : Int)).toNat 64)) ↔ ¬ m.toNat / 2 ^ (8 * k) = 0 := by
  have e : min (8 * (k : Int)).toNat 64 = 8 * k := by omega
  rw [e]
  have h1 : m.toNat / 2 ^ (8 * k) < 18446744073709551616 := Nat.lt_of_le_of_lt (Nat.div_le_self _ _) (by have := m.toNat_lt; omega)
  have h2 : (UInt64.ofNat (m.toNat / 2 ^ (8 * k))).toNat = m.toNat / 2 ^ (8 * k) := by
    rw [UInt64.toNat_ofNat']
    exact Nat.mod_eq_of_lt h1
  rw [UInt64.lt_iff_toNat_lt, h2]
  show 0 < _ ↔ _
  omega
end Wi
end Go.Fw
namespace Go.Fw
namespace Wi
theorem ofb_nat (n : Nat) : ofb (n : Int) = UInt8.ofNat n := by
  apply UInt8.toNat.inj
  have h3 := ofb_toNat (n : Int)
  rw [UInt8.toNat_ofNat']
  omega
end Wi
end Go.Fw
namespace Go.Fw
namespace Wi
theorem flat_len (ps : List (List UInt8)) (hp : ∀ p ∈ ps, p.length < 1048576) : (ps.flatMap bytes).length ≤ ps.length * 1048585 := by
  induction ps with
  | nil => simp
  | cons p ps ih =>
    have h1 := ih fun q hq => hp q (by simp [hq])
    have h2 := hp p (by simp)
    have h3 := int_len9 p.length
    simp only [List.flatMap_cons, List.length_append, List.length_cons, bytes]
    omega
end Wi
namespace Sha
def ofS (tag : Int) (ps : List (List UInt8)) : Stm := adds (adds begin_ [ofb tag]) (ps.flatMap Wi.bytes)
def ofD (tag : Int) (ps : List (List UInt8)) : List UInt8 := (fin (ofS tag ps)).take 16
theorem ofS_ok (tag : Int) (ps : List (List UInt8)) : (ofS tag ps).st.length = 8 ∧ (ofS tag ps).bl.length = 64 :=
  let h := adds_len begin_ begin_8 begin_64 [ofb tag]
  adds_len _ h.1 h.2 _
theorem ofS_n (tag : Int) (ps : List (List UInt8)) (hp : ∀ p ∈ ps, p.length < 1048576) (hl : ps.length < 1048576) : (ofS tag ps).n.toNat < 2199023255552 := by
  have h1 := adds_nlt begin_ [ofb tag] (by rw [begin_n]; simp)
  have h2 := Wi.flat_len ps hp
  have h3 := adds_nlt (adds begin_ [ofb tag]) (ps.flatMap Wi.bytes) (by rw [h1, begin_n]; simp only [List.length_cons, List.length_nil]; omega)
  unfold ofS
  rw [h3, h1, begin_n]
  simp only [List.length_cons, List.length_nil]
  omega
theorem ofS_0 (tag : Int) : ofS tag [] = adds begin_ [ofb tag] := rfl
theorem ofS_step (tag : Int) (ps : List (List UInt8)) (i : Nat) (h : i < ps.length) : adds (ofS tag (ps.take i)) (Wi.bytes ps[i]) = ofS tag (ps.take (i + 1)) := by
  unfold ofS
  rw [← adds_app, List.take_add_one, List.getElem?_eq_getElem h, List.flatMap_append]
  simp
theorem ofD_len (tag : Int) (ps : List (List UInt8)) : (ofD tag ps).length = 16 := by unfold ofD; rw [List.length_take, fin_len]; rfl
end Sha
end Go.Fw
namespace Go.Fw
namespace Sha
theorem ofS_step' (tag : Int) (ps : List (List UInt8)) (i : Nat) (h : i < ps.length) : adds (ofS tag (ps.take i)) (Wi.bytes (ps.getD i [])) = ofS tag (ps.take (i + 1)) := by
  rw [← ofS_step tag ps i h, List.getD_eq_getElem?_getD, List.getElem?_eq_getElem h]
  rfl
theorem getD_mem (ps : List (List UInt8)) (i : Nat) (h : i < ps.length) : ps.getD i [] ∈ ps := by
  rw [List.getD_eq_getElem?_getD, List.getElem?_eq_getElem h]
  exact List.getElem_mem h
end Sha
end Go.Fw
namespace Go.Fw
theorem Wi.bytes_len (p : List UInt8) : (Wi.bytes p).length ≤ p.length + 9 := by
  have := Wi.int_len9 p.length
  simp only [Wi.bytes, List.length_append]
  omega
end Go.Fw
