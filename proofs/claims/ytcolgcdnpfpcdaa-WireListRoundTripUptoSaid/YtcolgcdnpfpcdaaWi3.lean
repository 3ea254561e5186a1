/- A text of a proof over this seat: walks over the program's functions and the plain laws that they need. -/
import Derived.Test.YtcolgcdnpfpcdaaSha7
set_option linter.all false
namespace Go.Fw
namespace Wi
/-! ### decoding an integer -/
def flipOf (h : UInt8) : UInt8 := if h < 128 then 255 else 0
def getInt (b : List UInt8) : Int × Int × Int :=
  match b with
  | [] => (0, 0, 3)
  | h :: t =>
    if 8 < (h ^^^ flipOf h).toNat - 128 then (0, 0, 2)
    else if t.length < (h ^^^ flipOf h).toNat - 128 then (0, 0, 3)
    else if 0 < (h ^^^ flipOf h).toNat - 128 ∧ t.getD 0 0 ^^^ flipOf h = 0 then (0, 0, 2)
    else if 9223372036854775808 ≤ valBE ((t.take ((h ^^^ flipOf h).toNat - 128)).map (· ^^^ flipOf h)) then (0, 0, 2)
    else (if flipOf h = 0 then (valBE ((t.take ((h ^^^ flipOf h).toNat - 128)).map (· ^^^ flipOf h)) : Int) else -1 - (valBE ((t.take ((h ^^^ flipOf h).toNat - 128)).map (· ^^^ flipOf h)) : Int), ((h ^^^ flipOf h).toNat - 128 : Nat) + 1, 0)

theorem digs_map (m : UInt64) (fl : UInt8) (k i : Nat) : digsFrom m fl k i = (digsFrom m 0 k i).map (· ^^^ fl) := by
  unfold digsFrom
  rw [List.map_map]
  apply List.map_congr_left
  intro j _
  unfold digit
  simp
theorem xor_xor (a b : UInt8) : a ^^^ b ^^^ b = a := by rw [UInt8.xor_assoc, UInt8.xor_self, UInt8.xor_zero]
theorem map_xx (l : List UInt8) (fl : UInt8) : (l.map (· ^^^ fl)).map (· ^^^ fl) = l := by
  rw [List.map_map]
  conv => rhs; rw [← List.map_id l]
  apply List.map_congr_left
  intro x _
  exact xor_xor x fl
theorem flOf_cases (n : Int) : (n < 0 ∧ flOf n = 255) ∨ (0 ≤ n ∧ flOf n = 0) := by
  unfold flOf
  by_cases h : n < 0
  · exact .inl ⟨h, if_pos h⟩
  · exact .inr ⟨by omega, if_neg h⟩
theorem head_facts : ∀ k : Nat, k ≤ 8 → (∀ fl : UInt8, fl = 0 ∨ fl = 255 → flipOf (UInt8.ofNat (128 + k) ^^^ fl) = fl ∧ (UInt8.ofNat (128 + k) ^^^ fl ^^^ fl).toNat - 128 = k) := by
  have : ∀ k : Nat, k ≤ 8 → flipOf (UInt8.ofNat (128 + k) ^^^ 0) = 0 ∧ flipOf (UInt8.ofNat (128 + k) ^^^ 255) = 255 ∧ (UInt8.ofNat (128 + k)).toNat - 128 = k := by decide
  intro k hk fl hfl
  obtain ⟨h1, h2, h3⟩ := this k hk
  rw [xor_xor]
  rcases hfl with rfl | rfl
  · exact ⟨h1, h3⟩
  · exact ⟨h2, h3⟩
theorem nb_low (m : UInt64) (h : 0 < nb m) : 256 ^ (nb m - 1) ≤ m.toNat := by
  have h1 := (nbF_spec m 8).1 (nb m - 1) (show nb m - 1 < nbF m 8 by show nb m - 1 < nb m; omega)
  rw [pow256] at h1
  exact Nat.le_of_not_lt fun h2 => by rw [Nat.div_eq_of_lt h2] at h1; omega
theorem flOf_or (n : Int) : flOf n = 0 ∨ flOf n = 255 := by
  rcases flOf_cases n with ⟨_, h⟩ | ⟨_, h⟩ <;> simp [h]
theorem getInt_int (n : Int) (hn : -9223372036854775808 ≤ n ∧ n ≤ 9223372036854775807) (t : List UInt8) : getInt (int n ++ t) = (n, ((int n).length : Int), 0) := by
  have hm := mOf_mag n hn
  have hk := nb_le (mOf n)
  obtain ⟨f1, f2⟩ := head_facts (nb (mOf n)) hk (flOf n) (flOf_or n)
  have hlen := int_len n
  unfold int at hlen ⊢
  rw [List.cons_append]
  unfold getInt
  simp only [f1, f2]
  have hdl : (digsFrom (mOf n) (flOf n) (nb (mOf n)) 0).length = nb (mOf n) := by rw [digs_len]; omega
  have htk : (digsFrom (mOf n) (flOf n) (nb (mOf n)) 0 ++ t).take (nb (mOf n)) = digsFrom (mOf n) (flOf n) (nb (mOf n)) 0 := by
    rw [List.take_append_of_le_length (by omega), List.take_of_length_le (by omega)]
  have hv : valBE ((digsFrom (mOf n) (flOf n) (nb (mOf n)) 0).map (· ^^^ flOf n)) = (mOf n).toNat := by
    rw [digs_map, map_xx, val_int]
  have hd0 : ¬ (0 < nb (mOf n) ∧ (digsFrom (mOf n) (flOf n) (nb (mOf n)) 0 ++ t).getD 0 0 ^^^ flOf n = 0) := by
    rintro ⟨h1, h2⟩
    obtain ⟨k, hk'⟩ : ∃ k, nb (mOf n) = k + 1 := ⟨nb (mOf n) - 1, by omega⟩
    have hlo := nb_low (mOf n) h1
    have hhi := lt_nb (mOf n)
    rw [hk', digs_cons, List.cons_append, List.getD_cons_zero] at h2
    unfold digit at h2
    rw [xor_xor, pow256] at h2
    rw [hk'] at hlo hhi
    have h3 := congrArg UInt8.toNat h2
    rw [UInt8.toNat_ofNat'] at h3
    have h4 : 1 ≤ (mOf n).toNat / 256 ^ k := (Nat.le_div_iff_mul_le (Nat.pow_pos (by omega))).2 (by simpa using hlo)
    have h5 : (mOf n).toNat / 256 ^ k < 256 := Nat.div_lt_of_lt_mul (by rw [Nat.pow_succ] at hhi; exact hhi)
    rw [Nat.mod_eq_of_lt h5] at h3
    have : (0 : UInt8).toNat = 0 := rfl
    omega
  rw [if_neg (by omega), if_neg (by rw [List.length_append]; omega), if_neg hd0, htk, hv, if_neg (by unfold mag at hm; split at hm <;> omega)]
  refine Prod.ext ?_ (Prod.ext ?_ rfl)
  · rcases flOf_cases n with ⟨h, e⟩ | ⟨h, e⟩
    · simp only [e]
      rw [if_neg (by decide), hm]; unfold mag; rw [if_pos h]; omega
    · simp only [e, if_true]
      rw [hm]; unfold mag; rw [if_neg (by omega)]
  · show ((nb (mOf n) : Nat) : Int) + 1 = _
    rw [hlen]
    show ((nb (mOf n) : Nat) : Int) + 1 = ((1 + nb (mOf n) : Nat) : Int)
    omega
theorem getInt_short (n : Int) (i : Nat) (h : i < (int n).length) : getInt ((int n).take i) = (0, 0, 3) := by
  have hk := nb_le (mOf n)
  obtain ⟨f1, f2⟩ := head_facts (nb (mOf n)) hk (flOf n) (flOf_or n)
  have hlen := int_len n
  cases i with
  | zero => rfl
  | succ i =>
    unfold int at h ⊢
    rw [List.take_succ_cons]
    rw [List.length_cons, digs_len] at h
    unfold getInt
    simp only [f1, f2]
    rw [if_neg (by omega), if_pos (by rw [List.length_take, digs_len]; omega)]
theorem valBE_lt : ∀ (l : List UInt8), valBE l < 256 ^ l.length
  | [] => by simp [valBE]
  | d :: l => by
    rw [valBE_cons, List.length_cons, Nat.pow_succ]
    have h1 := valBE_lt l
    have h2 := d.toNat_lt
    have h3 : d.toNat * 256 ^ l.length ≤ 255 * 256 ^ l.length := Nat.mul_le_mul_right _ (by omega)
    omega
theorem valBE_inj : ∀ (a b : List UInt8), a.length = b.length → valBE a = valBE b → a = b
  | [], [], _, _ => rfl
  | c :: a, d :: b, hl, hv => by
    have hl' : a.length = b.length := by simpa using hl
    rw [valBE_cons, valBE_cons, hl'] at hv
    have h1 := valBE_lt a
    have h2 := valBE_lt b
    rw [hl'] at h1
    have hp : 0 < 256 ^ b.length := Nat.pow_pos (by omega)
    have e1 : c.toNat = d.toNat := by
      have h3 : (c.toNat * 256 ^ b.length + valBE a) / 256 ^ b.length = c.toNat := by
        rw [Nat.mul_comm, Nat.mul_add_div hp, Nat.div_eq_of_lt h1]; rfl
      have h4 : (d.toNat * 256 ^ b.length + valBE b) / 256 ^ b.length = d.toNat := by
        rw [Nat.mul_comm, Nat.mul_add_div hp, Nat.div_eq_of_lt h2]; rfl
      rw [← h3, hv, h4]
    rw [UInt8.toNat.inj e1, valBE_inj a b hl' (by rw [e1] at hv; omega)]
theorem mOf_lit (m : Nat) (h : m < 9223372036854775808) (fl : UInt8) (hfl : fl = 0 ∨ fl = 255) : (mOf (if fl = 0 then (m : Int) else -1 - (m : Int))).toNat = m ∧ flOf (if fl = 0 then (m : Int) else -1 - (m : Int)) = fl := by
  rcases hfl with rfl | rfl
  · rw [if_pos rfl]
    exact ⟨mOf_nat m h, flOf_nat m⟩
  · rw [if_neg (by decide)]
    refine ⟨?_, by unfold flOf; rw [if_pos (by omega)]⟩
    have := mOf_mag (-1 - (m : Int)) (by omega)
    unfold mag at this
    rw [if_pos (by omega)] at this
    omega
theorem flipOf_or (h : UInt8) : flipOf h = 0 ∨ flipOf h = 255 := by
  unfold flipOf
  split <;> simp
theorem flip_ge : ∀ h : UInt8, 128 ≤ (h ^^^ flipOf h).toNat := by
  intro h
  have : ∀ b : BitVec 8, 128 ≤ ((UInt8.ofBitVec b) ^^^ flipOf (UInt8.ofBitVec b)).toNat := by decide +kernel
  exact this h.toBitVec
/-- What is decoded is the encoding's own bytes. -/
theorem getInt_canon {b : List UInt8} {n k : Int} (h : getInt b = (n, k, 0)) : (-9223372036854775808 ≤ n ∧ n ≤ 9223372036854775807) ∧ k = (int n).length ∧ ∃ t, b = int n ++ t := by
  unfold getInt at h
  split at h
  · simp at h
  · rename_i hd t
    have hge := flip_ge hd
    have hfl := flipOf_or hd
    generalize hK : (hd ^^^ flipOf hd).toNat - 128 = K at h
    generalize hF : flipOf hd = fl at h hge hfl hK
    split at h
    · simp at h
    rename_i h8
    split at h
    · simp at h
    rename_i hl
    split at h
    · simp at h
    rename_i h0
    split at h
    · simp at h
    rename_i hm
    generalize hD : (t.take K).map (· ^^^ fl) = D at h hm
    have hDl : D.length = K := by rw [← hD]; simp; omega
    obtain ⟨e1, e2⟩ := mOf_lit (valBE D) (by omega) fl hfl
    simp only [Prod.mk.injEq, and_true] at h
    obtain ⟨rfl, rfl⟩ := h
    generalize hn : (if fl = 0 then (valBE D : Int) else -1 - (valBE D : Int)) = n at e1 e2
    have hrange : -9223372036854775808 ≤ n ∧ n ≤ 9223372036854775807 := by
      rw [← hn]; split <;> omega
    have hnb : nb (mOf n) = K := by
      symm
      refine nb_un (mOf n) K ?_ fun i hi => ?_
      · rw [pow256, e1]
        exact Nat.div_eq_of_lt (by have := valBE_lt D; rwa [hDl] at this)
      · rw [pow256, e1]
        -- the first digit is not nought
        have hK0 : 0 < K := by omega
        obtain ⟨c, D', hDc⟩ : ∃ c D', D = c :: D' := by
          cases D with
          | nil => simp at hDl; omega
          | cons c D' => exact ⟨c, D', rfl⟩
        have hc : c ≠ 0 := by
          intro hc0
          apply h0
          refine ⟨hK0, ?_⟩
          cases t with
          | nil => simp at hl; omega
          | cons t0 t' =>
            obtain ⟨K', rfl⟩ : ∃ K', K = K' + 1 := ⟨K - 1, by omega⟩
            rw [List.take_succ_cons, List.map_cons, hDc] at hD
            rw [List.getD_cons_zero]
            exact (List.cons.inj hD).1.trans hc0
        have hc1 : 1 ≤ c.toNat := by
          rcases Nat.eq_zero_or_pos c.toNat with h9 | h9
          · exact absurd (UInt8.toNat.inj (h9.trans (show 0 = (0 : UInt8).toNat from rfl))) hc
          · exact h9
        have hv : valBE D = c.toNat * 256 ^ D'.length + valBE D' := by rw [hDc, valBE_cons]
        have hDl' : D'.length = K - 1 := by rw [hDc] at hDl; simp at hDl; omega
        have h1 : 256 ^ i ≤ 256 ^ (K - 1) := Nat.pow_le_pow_right (by omega) (by omega)
        have h2 : 256 ^ (K - 1) ≤ c.toNat * 256 ^ (K - 1) := Nat.le_mul_of_pos_left _ (by omega)
        rw [hDl'] at hv
        exact Nat.div_pos (by omega) (Nat.pow_pos (by omega))
    refine ⟨hrange, ?_, t.drop K, ?_⟩
    · rw [int_len, hnb]; omega
    · have hdig : digsFrom (mOf n) (flOf n) K 0 = t.take K := by
        rw [digs_map, e2]
        have : digsFrom (mOf n) 0 K 0 = D := by
          refine valBE_inj _ _ (by rw [digs_len, hDl]; omega) ?_
          have := val_int (mOf n)
          rw [hnb] at this
          rw [this, e1]
        rw [this, ← hD, map_xx]
      unfold int
      rw [hnb, hdig, e2]
      have hhd : hd = UInt8.ofNat (128 + K) ^^^ fl := by
        have h1 : hd ^^^ fl = UInt8.ofNat (128 + K) := by
          apply UInt8.toNat.inj
          rw [UInt8.toNat_ofNat']
          omega
        rw [← h1, xor_xor]
      rw [← hhd, List.cons_append, List.take_append_drop]
end Wi
end Go.Fw
