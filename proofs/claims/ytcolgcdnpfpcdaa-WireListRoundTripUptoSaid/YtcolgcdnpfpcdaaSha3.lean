/- A text of a proof over this seat: walks over the program's functions and the plain laws that they need. -/
import Derived.Test.YtcolgcdnpfpcdaaSha2
set_option linter.all false
namespace Go.Fw
namespace Sha
theorem zeros_lt (n : Nat) : zerosFor n < 64 := by unfold zerosFor; omega
theorem zeros_at (n : Nat) : (n + (1 + zerosFor n)) % 64 = 56 := by unfold zerosFor; omega
theorem zeros_un (n j : Nat) (h : j ≤ zerosFor n) (h1 : (n + (1 + j)) % 64 = 56) : j = zerosFor n := by unfold zerosFor at *; omega
theorem be8_len (n : UInt64) : (be8 n).length = 8 := by simp [be8]
theorem be8_step (n : UInt64) (i : Nat) (h : i < 8) : (be8 n).take (i + 1) = (be8 n).take i ++ [UInt8.ofNat (n.toNat / 2 ^ (56 - 8 * i))] := by
  rw [List.take_add_one]
  simp [be8, h]
theorem byte_q (n : UInt64) (i : Int) (h : 0 ≤ i ∧ i < 8) : ofb ((UInt64.ofNat (n.toNat / 2 ^ (min (56 - 8 * i).toNat 64))).toNat : Int) = UInt8.ofNat (n.toNat / 2 ^ (56 - 8 * i.toNat)) := by
  have e : min (56 - 8 * i).toNat 64 = 56 - 8 * i.toNat := by omega
  rw [e]
  have h1 : n.toNat / 2 ^ (56 - 8 * i.toNat) < 18446744073709551616 := Nat.lt_of_le_of_lt (Nat.div_le_self _ _) (by have := n.toNat_lt; omega)
  have h2 : (UInt64.ofNat (n.toNat / 2 ^ (56 - 8 * i.toNat))).toNat = n.toNat / 2 ^ (56 - 8 * i.toNat) := by
    rw [UInt64.toNat_ofNat']
    exact Nat.mod_eq_of_lt h1
  rw [h2]
  apply UInt8.toNat.inj
  have h3 := ofb_toNat ((n.toNat / 2 ^ (56 - 8 * i.toNat) : Nat) : Int)
  rw [UInt8.toNat_ofNat']
  omega
def byteO (st : List UInt32) (i : Nat) : UInt8 := UInt8.ofNat ((st.getD (i / 4) 0).toNat / 2 ^ (24 - 8 * (i % 4)))
def outW (st : List UInt32) (i : Nat) : List UInt8 := (List.range 32).map fun j => if j < i then byteO st j else 0
theorem outW_len (st : List UInt32) (i : Nat) : (outW st i).length = 32 := by simp [outW]
theorem outW_0 (st : List UInt32) : outW st 0 = List.replicate 32 0 := rfl
theorem outW_32 (st : List UInt32) : outW st 32 = outB st := by
  unfold outW outB
  apply List.map_congr_left
  intro j hj
  rw [List.mem_range] at hj
  rw [if_pos hj]
  rfl
theorem outW_step (st : List UInt32) (i : Nat) (h : i < 32) : (outW st i).set i (byteO st i) = outW st (i + 1) := by
  apply List.ext_getElem
  · simp [outW]
  · intro j h1 h2
    simp [outW] at h1 h2
    rw [List.getElem_set]
    simp only [outW, List.getElem_map, List.getElem_range]
    by_cases hj : i = j
    · subst hj; simp
    · simp only [hj, if_false]
      by_cases h3 : j < i
      · rw [if_pos h3, if_pos (by omega)]
      · rw [if_neg h3, if_neg (by omega)]
theorem byte_w (st : List UInt32) (i : Int) (h : 0 ≤ i ∧ i < 32) : ofb ((UInt32.ofNat ((st.getD (i / 4).toNat 0).toNat / 2 ^ (min (24 - 8 * (i % 4)).toNat 32))).toNat : Int) = byteO st i.toNat := by
  have e : min (24 - 8 * (i % 4)).toNat 32 = 24 - 8 * (i.toNat % 4) := by omega
  have e2 : (i / 4).toNat = i.toNat / 4 := by omega
  rw [e, e2]
  unfold byteO
  generalize st.getD (i.toNat / 4) 0 = x
  have h1 : x.toNat / 2 ^ (24 - 8 * (i.toNat % 4)) < 4294967296 := Nat.lt_of_le_of_lt (Nat.div_le_self _ _) (by have := x.toNat_lt; omega)
  have h2 : (UInt32.ofNat (x.toNat / 2 ^ (24 - 8 * (i.toNat % 4)))).toNat = x.toNat / 2 ^ (24 - 8 * (i.toNat % 4)) := by
    rw [UInt32.toNat_ofNat']
    exact Nat.mod_eq_of_lt h1
  rw [h2]
  apply UInt8.toNat.inj
  have h3 := ofb_toNat ((x.toNat / 2 ^ (24 - 8 * (i.toNat % 4)) : Nat) : Int)
  rw [UInt8.toNat_ofNat']
  omega
theorem pad_len (n : UInt64) : (pad n).length < 100 := by
  have := zeros_lt n.toNat
  simp [pad, be8]
  omega
theorem outB_len (st : List UInt32) : (outB st).length = 32 := by simp [outB]
end Sha
end Go.Fw
namespace Go.Fw
namespace Sha
theorem adds_n (s : Stm) (t : List UInt8) : (adds s t).n = s.n + ofq (t.length : Int) := by
  induction t generalizing s with
  | nil => show s.n = s.n + ofq 0; rw [show ofq (0 : Int) = 0 by decide]; simp
  | cons c t ih =>
    show (adds (addB s c) t).n = _
    rw [ih]
    show s.n + 1 + ofq (t.length : Int) = s.n + ofq ((t.length + 1 : Nat) : Int)
    rw [ofq_add, UInt64.add_assoc, show ofq ((1 : Nat) : Int) = 1 by decide, UInt64.add_comm 1]
theorem adds_nlt (s : Stm) (t : List UInt8) (h : s.n.toNat + t.length < 18446744073709551616) : (adds s t).n.toNat = s.n.toNat + t.length := by
  rw [adds_n, UInt64.toNat_add]
  have := ofq_toNat (t.length : Int)
  omega
theorem begin_8 : begin_.st.length = 8 := rfl
theorem begin_64 : begin_.bl.length = 64 := rfl
theorem begin_n : begin_.n.toNat = 0 := rfl
theorem fin_len (s : Stm) : (fin s).length = 32 := outB_len _
theorem sum_len (m : List UInt8) : (sum m).length = 32 := fin_len _
/-- The key of the code, padded, each byte xored. -/
def padK (key : List UInt8) (c : UInt8) : List UInt8 := (key.take (min key.length 64) ++ (List.replicate 64 (0 : UInt8)).drop (min key.length 64)).map (· ^^^ c)
def padW (key : List UInt8) (c : UInt8) (i : Nat) : List UInt8 :=
  let b := key.take (min key.length 64) ++ (List.replicate 64 (0 : UInt8)).drop (min key.length 64)
  (b.take i).map (· ^^^ c) ++ b.drop i
theorem padK_len (key : List UInt8) (c : UInt8) : (padK key c).length = 64 := by simp [padK]; omega
theorem padW_len (key : List UInt8) (c : UInt8) (i : Nat) : (padW key c i).length = 64 := by simp [padW]; omega
theorem padW_0 (key : List UInt8) (c : UInt8) : padW key c 0 = key.take (min key.length 64) ++ (List.replicate 64 (0 : UInt8)).drop (min key.length 64) := by simp [padW]
theorem padW_64 (key : List UInt8) (c : UInt8) : padW key c 64 = padK key c := by
  have hl : (key.take (min key.length 64) ++ (List.replicate 64 (0 : UInt8)).drop (min key.length 64)).length = 64 := by simp; omega
  simp only [padW, padK]
  generalize key.take (min key.length 64) ++ (List.replicate 64 (0 : UInt8)).drop (min key.length 64) = b at hl
  rw [List.take_of_length_le (by omega), List.drop_of_length_le (by omega), List.append_nil]
theorem padW_step (key : List UInt8) (c : UInt8) (i : Nat) (h : i < 64) : (padW key c i).set i ((padW key c i).getD i 0 ^^^ c) = padW key c (i + 1) := by
  have hl : (key.take (min key.length 64) ++ (List.replicate 64 (0 : UInt8)).drop (min key.length 64)).length = 64 := by simp; omega
  simp only [padW]
  generalize key.take (min key.length 64) ++ (List.replicate 64 (0 : UInt8)).drop (min key.length 64) = b at hl
  have e : ((b.take i).map (· ^^^ c)).length = i := by simp; omega
  have hd : b.drop i = b[i] :: b.drop (i + 1) := List.drop_eq_getElem_cons (by omega)
  have hg : ((b.take i).map (· ^^^ c) ++ b.drop i).getD i 0 = b[i] := by
    rw [List.getD_eq_getElem?_getD, List.getElem?_append_right (by omega), e, Nat.sub_self, hd]
    rfl
  rw [hg, List.set_append_right _ _ (by omega), e, Nat.sub_self, hd, List.take_add_one, List.set_cons_zero, List.getElem?_eq_getElem (by omega), List.map_append, List.append_assoc]
  rfl
def keyOf (key : List UInt8) : List UInt8 := if 64 < key.length then sum key else key
def mac (key text : List UInt8) : List UInt8 :=
  fin (adds (adds begin_ (padK (keyOf key) 92)) (fin (adds (adds begin_ (padK (keyOf key) 54)) text)))
end Sha
end Go.Fw
namespace Go.Fw
namespace Sha
theorem mac_ok (k : List UInt8) (c : UInt8) (t : List UInt8) (ht : t.length < 1099511627776) :
    (adds begin_ (padK k c)).st.length = 8 ∧ (adds begin_ (padK k c)).bl.length = 64 ∧ (adds (adds begin_ (padK k c)) t).st.length = 8 ∧ (adds (adds begin_ (padK k c)) t).bl.length = 64 ∧ (adds (adds begin_ (padK k c)) t).n.toNat = 64 + t.length := by
  have h1 := adds_len begin_ begin_8 begin_64 (padK k c)
  have h2 := adds_len _ h1.1 h1.2 t
  have h3 := adds_nlt begin_ (padK k c) (by rw [begin_n, padK_len]; omega)
  rw [begin_n, padK_len] at h3
  have h4 := adds_nlt (adds begin_ (padK k c)) t (by omega)
  exact ⟨h1.1, h1.2, h2.1, h2.2, by omega⟩
theorem mac_len (k t : List UInt8) : (mac k t).length = 32 := fin_len _
end Sha
end Go.Fw
