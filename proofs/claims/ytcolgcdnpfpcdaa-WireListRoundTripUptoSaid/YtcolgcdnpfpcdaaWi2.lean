/- A text of a proof over this seat: walks over the program's functions and the plain laws that they need. -/
import Derived.Test.YtcolgcdnpfpcdaaWi
set_option linter.all false
namespace Go.Fw
namespace Wi
/-- The document's magnitude. -/
def mag (n : Int) : Int := if n < 0 then -1 - n else n
theorem mOf_mag (n : Int) (h : -9223372036854775808 ≤ n ∧ n ≤ 9223372036854775807) : ((mOf n).toNat : Int) = mag n := by
  have hq := ofq_toNat n
  unfold mOf mag
  split
  · have : (~~~(ofq n)).toNat = 18446744073709551615 - (ofq n).toNat := by
      rw [UInt64.toNat_not]
      rfl
    omega
  · omega
theorem nbF_spec (m : UInt64) : ∀ k, (∀ i, i < nbF m k → 0 < m.toNat / 2 ^ (8 * i)) ∧ (nbF m k < k → m.toNat / 2 ^ (8 * nbF m k) = 0)
  | 0 => ⟨fun i h => absurd h (Nat.not_lt_zero _), fun h => absurd h (Nat.not_lt_zero _)⟩
  | k + 1 => by
    have ih := nbF_spec m k
    have hle := nbF_le m k
    unfold nbF
    split
    · rename_i h0
      refine ⟨ih.1, fun _ => ?_⟩
      rcases Nat.lt_or_ge (nbF m k) k with h | h
      · exact ih.2 h
      · rw [show nbF m k = k by omega]; exact h0
    · rename_i h0
      refine ⟨fun i hi => ?_, fun h => absurd h (Nat.lt_irrefl _)⟩
      have h1 : 0 < m.toNat / 2 ^ (8 * k) := Nat.pos_of_ne_zero h0
      have h2 : 2 ^ (8 * i) ≤ 2 ^ (8 * k) := Nat.pow_le_pow_right (by omega) (by omega)
      exact Nat.lt_of_lt_of_le h1 (Nat.div_le_div_left h2 (Nat.pow_pos (by omega)))
theorem nb_zero (m : UInt64) : m.toNat / 2 ^ (8 * nb m) = 0 := by
  rcases Nat.lt_or_ge (nb m) 8 with h | h
  · exact (nbF_spec m 8).2 h
  · have := nb_le m
    rw [show nb m = 8 by omega]
    have := m.toNat_lt
    omega
theorem nb_un (m : UInt64) (j : Nat) (h0 : m.toNat / 2 ^ (8 * j) = 0) (h1 : ∀ i, i < j → 0 < m.toNat / 2 ^ (8 * i)) : j = nb m := by
  rcases Nat.lt_trichotomy j (nb m) with h | h | h
  · have := (nbF_spec m 8).1 j h; omega
  · exact h
  · have := h1 _ h; have := nb_zero m; omega
end Wi
end Go.Fw
namespace Go.Fw
namespace Wi
theorem fl_sub (d : UInt8) : 255 - d = d ^^^ 255 := by
  apply UInt8.toBitVec_inj.1
  show 255#8 - d.toBitVec = d.toBitVec ^^^ 255#8
  generalize d.toBitVec = b
  revert b
  decide +kernel
theorem head_neg (k : Nat) (h : k ≤ 8) : ofb (127 - (k : Int)) = UInt8.ofNat (128 + k) ^^^ 255 := by
  have : ∀ k : Nat, k ≤ 8 → ofb (127 - (k : Int)) = UInt8.ofNat (128 + k) ^^^ 255 := by decide
  exact this k h
/-- The document's digits, the least first. -/
def digLE (m : Nat) (j : Nat) : List UInt8 := (List.range j).map fun i => UInt8.ofNat (m / 2 ^ (8 * i))
theorem digLE_len (m j : Nat) : (digLE m j).length = j := by simp [digLE]
theorem digLE_step (m : Nat) (j : Nat) (mi : Int) (h : mi = ((m / 2 ^ (8 * j) : Nat) : Int)) : digLE m j ++ [ofb (mi % 256)] = digLE m (j + 1) := by
  unfold digLE
  rw [List.range_succ, List.map_append]
  congr 1
  simp only [List.map_cons, List.map_nil]
  congr 1
  subst h
  apply UInt8.toNat.inj
  have h3 := ofb_toNat (((m / 2 ^ (8 * j) : Nat) : Int) % 256)
  rw [UInt8.toNat_ofNat']
  omega
theorem digLE_get (m j i : Nat) (h : i < j) : (digLE m j).getD i 0 = UInt8.ofNat (m / 2 ^ (8 * i)) := by
  rw [List.getD_eq_getElem?_getD, List.getElem?_eq_getElem (by rw [digLE_len]; exact h)]
  simp [digLE]
theorem div_step (m j : Nat) (mi : Int) (h : mi = ((m / 2 ^ (8 * j) : Nat) : Int)) : mi / 256 = ((m / 2 ^ (8 * (j + 1)) : Nat) : Int) := by
  subst h
  rw [show 8 * (j + 1) = 8 * j + 8 by omega, Nat.pow_add, ← Nat.div_div_eq_div_mul]
  omega
end Wi
end Go.Fw
namespace Go.Fw
theorem Wi.nb_max (m : UInt64) (j : Nat) (h : ∀ i, i < j → 0 < m.toNat / 2 ^ (8 * i)) : j ≤ 8 := by
  rcases Nat.lt_or_ge 8 j with h1 | h1
  · have h2 := h 8 h1
    have h3 := m.toNat_lt
    have h4 : m.toNat / 2 ^ (8 * 8) = 0 := Nat.div_eq_of_lt h3
    omega
  · exact h1
theorem Wi.div_le (a b : Nat) : ((a / b : Nat) : Int) ≤ a := by have := Nat.div_le_self a b; omega
end Go.Fw
namespace Go.Fw
def Sha.inp (tag : Int) (ps : List (List UInt8)) : List UInt8 := ofb tag :: ps.flatMap Wi.bytes
theorem Sha.inp_step (tag : Int) (ps : List (List UInt8)) (i : Nat) (h : i < ps.length) : inp tag (ps.take i) ++ Wi.bytes (ps.getD i []) = inp tag (ps.take (i + 1)) := by
  unfold inp
  rw [List.take_add_one, List.getElem?_eq_getElem h, List.flatMap_append, List.getD_eq_getElem?_getD, List.getElem?_eq_getElem h, List.cons_append]
  simp
theorem Sha.inp_len (tag : Int) (ps : List (List UInt8)) (hp : ∀ p ∈ ps, p.length < 1048576) : (inp tag ps).length ≤ 1 + ps.length * 1048585 := by
  have := Wi.flat_len ps hp
  unfold inp
  rw [List.length_cons]
  omega
theorem Sha.ofD_ref (tag : Int) (ps : List (List UInt8)) : ofD tag ps = (sum (inp tag ps)).take 16 := by
  unfold ofD ofS sum inp
  rw [← adds_app]
  rfl
end Go.Fw
