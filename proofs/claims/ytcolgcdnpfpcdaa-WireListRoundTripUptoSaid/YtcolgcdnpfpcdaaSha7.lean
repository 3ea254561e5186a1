/- A text of a proof over this seat: walks over the program's functions and the plain laws that they need. -/
import Derived.Test.YtcolgcdnpfpcdaaWi2
import Derived.Test.YtcolgcdnpfpcdaaSha6
set_option linter.all false
namespace Go.Fw
namespace Wi
/-- Digits, the greatest first, as a number. -/
def valBE (l : List UInt8) : Nat := l.foldl (fun a d => a * 256 + d.toNat) 0
theorem foldBE (l : List UInt8) : ∀ a, l.foldl (fun a d => a * 256 + d.toNat) a = a * 256 ^ l.length + valBE l := by
  induction l with
  | nil => intro a; simp [valBE]
  | cons d l ih =>
    intro a
    unfold valBE
    simp only [List.foldl_cons, List.length_cons]
    rw [ih, ih (0 * 256 + d.toNat), Nat.pow_succ, Nat.add_mul, Nat.mul_comm (256 ^ l.length) 256, ← Nat.mul_assoc, Nat.zero_mul, Nat.zero_add]
    omega
theorem valBE_cons (d : UInt8) (l : List UInt8) : valBE (d :: l) = d.toNat * 256 ^ l.length + valBE l := by
  have := foldBE l (0 * 256 + d.toNat)
  unfold valBE
  rw [List.foldl_cons, this]
  simp [valBE]
theorem digs_cons (m : UInt64) (fl : UInt8) (k : Nat) : digsFrom m fl (k + 1) 0 = digit m fl k :: digsFrom m fl k 0 := by
  unfold digsFrom
  rw [Nat.sub_zero, Nat.sub_zero, List.range_succ_eq_map, List.map_cons, List.map_map]
  congr 1
  apply List.map_congr_left
  intro j hj
  simp only [Function.comp]
  congr 1
  omega
theorem pow256 (k : Nat) : 2 ^ (8 * k) = 256 ^ k := by rw [Nat.pow_mul]
theorem val_digs (m : UInt64) : ∀ k, valBE (digsFrom m 0 k 0) = m.toNat % 256 ^ k
  | 0 => by simp [digsFrom, valBE, Nat.mod_one]
  | k + 1 => by
    rw [digs_cons, valBE_cons, val_digs m k, digs_len, Nat.sub_zero]
    have hd : (digit m 0 k).toNat = m.toNat / 256 ^ k % 256 := by
      unfold digit
      rw [UInt8.xor_zero, UInt8.toNat_ofNat', pow256]
    rw [hd, Nat.pow_succ, Nat.mod_mul, Nat.mul_comm]
    omega
theorem lt_nb (m : UInt64) : m.toNat < 256 ^ nb m := by
  have h := nb_zero m
  rw [pow256] at h
  exact (Nat.div_eq_zero_iff.1 h).resolve_left (Nat.ne_of_gt (Nat.pow_pos (by omega)))
theorem val_int (m : UInt64) : valBE (digsFrom m 0 (nb m) 0) = m.toNat := by
  rw [val_digs]
  exact Nat.mod_eq_of_lt (lt_nb m)
theorem mOf_nat (n : Nat) (h : n < 9223372036854775808) : (mOf (n : Int)).toNat = n := by
  have hq := ofq_toNat (n : Int)
  unfold mOf
  rw [if_neg (by omega)]
  omega
theorem flOf_nat (n : Nat) : flOf (n : Int) = 0 := by
  unfold flOf
  rw [if_neg (by omega)]
theorem int_pre (m n : Nat) (hm : m < 9223372036854775808) (hn : n < 9223372036854775808) (x y : List UInt8) (h : int (m : Int) ++ x = int (n : Int) ++ y) : m = n ∧ x = y := by
  unfold int at h
  rw [flOf_nat, flOf_nat, UInt8.xor_zero, UInt8.xor_zero, List.cons_append, List.cons_append] at h
  obtain ⟨h1, h2⟩ := List.cons.inj h
  have k1 := nb_le (mOf (m : Int))
  have k2 := nb_le (mOf (n : Int))
  have e : nb (mOf (m : Int)) = nb (mOf (n : Int)) := by
    have := congrArg UInt8.toNat h1
    rw [UInt8.toNat_ofNat', UInt8.toNat_ofNat'] at this
    omega
  obtain ⟨h3, h4⟩ := List.append_inj h2 (by rw [digs_len, digs_len, e])
  refine ⟨?_, h4⟩
  have v := congrArg valBE h3
  rw [val_int, val_int, mOf_nat m hm, mOf_nat n hn] at v
  exact v
theorem bytes_pre (p q x y : List UInt8) (hp : p.length < 9223372036854775808) (hq : q.length < 9223372036854775808) (h : bytes p ++ x = bytes q ++ y) : p = q ∧ x = y := by
  unfold bytes at h
  rw [List.append_assoc, List.append_assoc] at h
  obtain ⟨h1, h2⟩ := int_pre _ _ hp hq _ _ h
  exact List.append_inj h2 h1
theorem flat_inj : ∀ (ps qs : List (List UInt8)), (∀ p ∈ ps, p.length < 9223372036854775808) → (∀ p ∈ qs, p.length < 9223372036854775808) → ps.flatMap bytes = qs.flatMap bytes → ps = qs
  | [], [], _, _, _ => rfl
  | [], q :: qs, _, _, h => by
    have := congrArg List.length h
    have k := int_len9 (q.length : Int)
    simp only [List.flatMap_cons, List.flatMap_nil, bytes, List.length_append, List.length_nil] at this
    omega
  | p :: ps, [], _, _, h => by
    have := congrArg List.length h
    have k := int_len9 (p.length : Int)
    simp only [List.flatMap_cons, List.flatMap_nil, bytes, List.length_append, List.length_nil] at this
    omega
  | p :: ps, q :: qs, hp, hq, h => by
    rw [List.flatMap_cons, List.flatMap_cons] at h
    obtain ⟨rfl, h2⟩ := bytes_pre p q _ _ (hp p (by simp)) (hq q (by simp)) h
    rw [flat_inj ps qs (fun x hx => hp x (by simp [hx])) (fun x hx => hq x (by simp [hx])) h2]
end Wi
namespace Sha
theorem inp_inj (s t : UInt8) (ps qs : List (List UInt8)) (hp : ∀ p ∈ ps, p.length ≤ 400) (hq : ∀ p ∈ qs, p.length ≤ 400) (h : inp (s.toNat : Int) ps = inp (t.toNat : Int) qs) : s = t ∧ ps = qs := by
  unfold inp at h
  obtain ⟨h1, h2⟩ := List.cons.inj h
  refine ⟨?_, Wi.flat_inj ps qs (fun p h => by have := hp p h; omega) (fun p h => by have := hq p h; omega) h2⟩
  have := congrArg UInt8.toNat h1
  have a := ofb_toNat (s.toNat : Int)
  have b := ofb_toNat (t.toNat : Int)
  have := s.toNat_lt
  have := t.toNat_lt
  exact UInt8.toNat.inj (by omega)
theorem ofb_and (x : Int) : ofb (iand x 255) = ofb x := by
  apply UInt8.toNat.inj
  have a := ofb_toNat (iand x 255)
  have b := ofb_toNat x
  have e : iand x 255 = x % 256 := by
    unfold iand
    have h1 : (BitVec.ofInt 64 x &&& BitVec.ofInt 64 255).toNat = (BitVec.ofInt 64 x).toNat % 256 := by
      rw [BitVec.toNat_and, show (BitVec.ofInt 64 255).toNat = 2 ^ 8 - 1 from rfl, Nat.and_two_pow_sub_one_eq_mod]
    rw [h1]
    have h2 : (BitVec.ofInt 64 x).toNat = (x % 18446744073709551616).toNat := by rw [BitVec.toNat_ofInt]; rfl
    rw [h2]
    have h3 : ((x % 18446744073709551616).toNat % 256 : Nat) < 256 := Nat.mod_lt _ (by omega)
    have h4 : (((x % 18446744073709551616).toNat % 256 : Nat) : Int) = x % 256 := by omega
    have h5 : (0 : Int) ≤ x % 256 ∧ x % 256 < 256 := by omega
    rw [h4]
    generalize x % 256 = r at h5
    have e1 : r % (2 ^ 64 : Int) = r := by omega
    simp only [IntKind.wrap, IntKind.bits, IntKind.signed, e1]
    rw [if_neg (by simp; omega)]
  rw [e] at a ⊢
  omega
theorem ofD_and (x : Int) (ps : List (List UInt8)) : ofD (iand x 255) ps = ofD x ps := by
  unfold ofD ofS
  rw [ofb_and]
theorem padK_eq (key : List UInt8) (c : UInt8) (h : key.length ≤ 64) : padK key c = (key ++ List.replicate (64 - key.length) 0).map (· ^^^ c) := by
  unfold padK
  rw [Nat.min_eq_left h, List.take_length, List.drop_replicate]
theorem padK_zero (key : List UInt8) (c : UInt8) (h : key.length < 64) : padK (key ++ [0]) c = padK key c := by
  rw [padK_eq key c (by omega), padK_eq _ c (by simp; omega)]
  congr 1
  rw [List.append_assoc, show 64 - key.length = (64 - (key ++ [(0 : UInt8)]).length) + 1 by simp; omega, List.replicate_succ]
  rfl
theorem mac_long (key text : List UInt8) (h : 64 < key.length) : mac key text = mac (sum key) text := by
  have e : keyOf key = sum key := by unfold keyOf; rw [if_pos h]
  have e2 : keyOf (sum key) = sum key := by unfold keyOf; rw [if_neg (by rw [sum_len]; omega)]
  unfold mac
  rw [e, e2]
theorem mac_zero (key text : List UInt8) (h : key.length < 64) : mac key text = mac (key ++ [0]) text := by
  have e : keyOf key = key := by unfold keyOf; rw [if_neg (by omega)]
  have e2 : keyOf (key ++ [0]) = key ++ [0] := by unfold keyOf; rw [if_neg (by simp; omega)]
  unfold mac
  rw [e, e2, padK_zero _ _ h, padK_zero _ _ h]
theorem flat_le (ps : List (List UInt8)) (hp : ∀ p ∈ ps, p.length ≤ 400) : ps.flatten.length ≤ ps.length * 400 := by
  induction ps with
  | nil => simp
  | cons p ps ih =>
    have h1 := hp p (by simp)
    have h2 := ih fun q hq => hp q (by simp [hq])
    simp only [List.flatten_cons, List.length_append, List.length_cons]
    omega
theorem flat12 (ps : List (List UInt8)) (hl : ps.length ≤ 12) (hp : ∀ p ∈ ps, p.length ≤ 400) (i : Nat) : (ps.take i).flatten.length ≤ 4800 := by
  have h := flat_le (ps.take i) fun p h => hp p (List.mem_of_mem_take h)
  have : (ps.take i).length ≤ 12 := by rw [List.length_take]; omega
  omega
theorem sum_def (m : List UInt8) : fin (adds begin_ m) = sum m := rfl
theorem sum_def2 (m k : List UInt8) : fin (adds (adds begin_ m) k) = sum (m ++ k) := by unfold sum; rw [adds_app]
end Sha
end Go.Fw
