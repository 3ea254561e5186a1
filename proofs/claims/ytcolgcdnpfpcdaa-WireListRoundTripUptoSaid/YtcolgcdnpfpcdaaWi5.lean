/- A text of a proof over this seat: walks over the program's functions and the plain laws that they need. -/
import Derived.Test.YtcolgcdnpfpcdaaLs
set_option linter.all false
namespace Go.Fw
namespace Wi
theorem getInt_cons (h : UInt8) (t : List UInt8) : getInt (h :: t) = if 8 < (h ^^^ flipOf h).toNat - 128 then (0, 0, 2)
    else if t.length < (h ^^^ flipOf h).toNat - 128 then (0, 0, 3)
    else if 0 < (h ^^^ flipOf h).toNat - 128 ∧ t.getD 0 0 ^^^ flipOf h = 0 then (0, 0, 2)
    else if 9223372036854775808 ≤ valBE ((t.take ((h ^^^ flipOf h).toNat - 128)).map (· ^^^ flipOf h)) then (0, 0, 2)
    else (if flipOf h = 0 then (valBE ((t.take ((h ^^^ flipOf h).toNat - 128)).map (· ^^^ flipOf h)) : Int) else -1 - (valBE ((t.take ((h ^^^ flipOf h).toNat - 128)).map (· ^^^ flipOf h)) : Int), (((h ^^^ flipOf h).toNat - 128 : Nat) : Int) + 1, 0) := rfl
section
variable {h : UInt8} {t : List UInt8} {K : Nat} {fl : UInt8}
theorem gi_big (hfl : fl = flipOf h) (hK : K = (h ^^^ fl).toNat - 128) (h8 : 8 < K) : getInt (h :: t) = (0, 0, 2) := by
  rw [getInt_cons, ← hfl, ← hK, if_pos h8]
theorem gi_more (hfl : fl = flipOf h) (hK : K = (h ^^^ fl).toNat - 128) (h8 : ¬ 8 < K) (hl : t.length < K) : getInt (h :: t) = (0, 0, 3) := by
  rw [getInt_cons, ← hfl, ← hK, if_neg h8, if_pos hl]
theorem gi_zero (hfl : fl = flipOf h) (hK : K = (h ^^^ fl).toNat - 128) (h8 : ¬ 8 < K) (hl : ¬ t.length < K) (h0 : 0 < K ∧ t.getD 0 0 ^^^ fl = 0) : getInt (h :: t) = (0, 0, 2) := by
  rw [getInt_cons, ← hfl, ← hK, if_neg h8, if_neg hl, if_pos h0]
theorem gi_high (hfl : fl = flipOf h) (hK : K = (h ^^^ fl).toNat - 128) (h8 : ¬ 8 < K) (hl : ¬ t.length < K) (hm : 9223372036854775808 ≤ valBE ((t.take K).map (· ^^^ fl))) : getInt (h :: t) = (0, 0, 2) := by
  rw [getInt_cons, ← hfl, ← hK, if_neg h8, if_neg hl]
  split
  · rfl
  · first | rfl | rw [if_pos hm]
theorem gi_ok (hfl : fl = flipOf h) (hK : K = (h ^^^ fl).toNat - 128) (h8 : ¬ 8 < K) (hl : ¬ t.length < K) (h0 : ¬ (0 < K ∧ t.getD 0 0 ^^^ fl = 0)) (hm : ¬ 9223372036854775808 ≤ valBE ((t.take K).map (· ^^^ fl))) :
    getInt (h :: t) = (if fl = 0 then (valBE ((t.take K).map (· ^^^ fl)) : Int) else -1 - (valBE ((t.take K).map (· ^^^ fl)) : Int), (K : Int) + 1, 0) := by
  rw [getInt_cons, ← hfl, ← hK, if_neg h8, if_neg hl, if_neg h0, if_neg hm]
end
theorem gi_eq {xs : List UInt8} {a b c : Int} (h : getInt xs = (a, b, c)) : Value.tuple [vi a, vi b, vi c].toArray = .tuple [vi (getInt xs).1, vi (getInt xs).2.1, vi (getInt xs).2.2].toArray := by rw [h]
theorem valBE_snoc (l : List UInt8) (d : UInt8) : valBE (l ++ [d]) = valBE l * 256 + d.toNat := by
  unfold valBE
  rw [List.foldl_append]
  rfl
/-- The digits read so far. -/
def vj (t : List UInt8) (fl : UInt8) (K j : Nat) : Nat := valBE (((t.take K).take j).map (· ^^^ fl))
theorem vj_0 (t : List UInt8) (fl : UInt8) (K : Nat) : vj t fl K 0 = 0 := by simp [vj, valBE]
theorem vj_K (t : List UInt8) (fl : UInt8) (K : Nat) : vj t fl K K = valBE ((t.take K).map (· ^^^ fl)) := by
  unfold vj
  rw [List.take_take, Nat.min_self]
theorem vj_succ (t : List UInt8) (fl : UInt8) (K j : Nat) (hj : j < K) (hl : K ≤ t.length) : vj t fl K (j + 1) = vj t fl K j * 256 + (t.getD j 0 ^^^ fl).toNat := by
  unfold vj
  rw [List.take_succ_eq_append_getElem (by rw [List.length_take]; omega), List.map_append, List.map_cons, List.map_nil, valBE_snoc, List.getElem_take, List.getD_eq_getElem?_getD, List.getElem?_eq_getElem (by omega)]
  rfl
theorem vj_lt (t : List UInt8) (fl : UInt8) (K j : Nat) (hj : j ≤ 7) : vj t fl K j < 72057594037927936 := by
  have h1 := valBE_lt (((t.take K).take j).map (· ^^^ fl))
  have h2 : (((t.take K).take j).map (· ^^^ fl)).length ≤ 7 := by simp; omega
  have h3 : 256 ^ (((t.take K).take j).map (· ^^^ fl)).length ≤ 256 ^ 7 := Nat.pow_le_pow_right (by omega) h2
  have h4 : 256 ^ 7 = 72057594037927936 := by decide
  unfold vj
  omega
theorem vj_mono (t : List UInt8) (fl : UInt8) (K i : Nat) (hi : i < K) (hl : K ≤ t.length) : vj t fl K i * 256 ≤ vj t fl K K := by
  have : ∀ d, i + 1 + d ≤ K → vj t fl K i * 256 ≤ vj t fl K (i + 1 + d) := by
    intro d
    induction d with
    | zero => intro _; rw [Nat.add_zero, vj_succ t fl K i hi hl]; omega
    | succ d ih =>
      intro hd
      have := ih (by omega)
      rw [show i + 1 + (d + 1) = (i + 1 + d) + 1 by omega, vj_succ t fl K (i + 1 + d) (by omega) hl]
      omega
  have h := this (K - (i + 1)) (by omega)
  rwa [show i + 1 + (K - (i + 1)) = K by omega] at h
theorem shl8_or (m : UInt64) (c : UInt8) (h : m.toNat < 72057594037927936) : (ofq ((m.toNat : Int) * 2 ^ min (Int.toNat 8) 64) ||| ofq (c.toNat : Int)).toNat = m.toNat * 256 + c.toNat := by
  have h1 := ofq_toNat ((m.toNat : Int) * 2 ^ min (Int.toNat 8) 64)
  have h2 := ofq_toNat (c.toNat : Int)
  have h3 := c.toNat_lt
  have e : (2 : Int) ^ min (Int.toNat 8) 64 = 256 := by decide
  rw [e] at h1
  rw [UInt64.toNat_or, e]
  have e1 : (ofq ((m.toNat : Int) * 256)).toNat = 2 ^ 8 * m.toNat := by omega
  have e2 : (ofq (c.toNat : Int)).toNat = c.toNat := by omega
  rw [e1, e2, ← Nat.two_pow_add_eq_or_of_lt (by omega)]
  omega
theorem top63 (m : UInt64) : (0 : UInt64) < UInt64.ofNat (m.toNat / 2 ^ min (Int.toNat 63) 64) ↔ 9223372036854775808 ≤ m.toNat := by
  have e : 2 ^ min (Int.toNat 63) 64 = 9223372036854775808 := by decide
  rw [e, UInt64.lt_iff_toNat_lt, UInt64.toNat_ofNat', Nat.mod_eq_of_lt (Nat.lt_of_le_of_lt (Nat.div_le_self _ _) (by have := m.toNat_lt; omega))]
  show 0 < _ ↔ _
  omega
theorem sgn_small (m : UInt64) (h : ¬ 9223372036854775808 ≤ m.toNat) : sgn m = m.toNat := by
  unfold sgn; rw [if_pos (by omega)]
theorem sgn_not (m : UInt64) (h : ¬ 9223372036854775808 ≤ m.toNat) : sgn (~~~m) = -1 - (m.toNat : Int) := by
  have e : (~~~m).toNat = 18446744073709551615 - m.toNat := by rw [UInt64.toNat_not]; rfl
  have := m.toNat_lt
  unfold sgn
  rw [e, if_neg (by omega)]
  omega
theorem fl_pos {fl : UInt8} (h : fl = 0 ∨ fl = 255) : 0 < fl ↔ ¬ fl = 0 := by
  rcases h with rfl | rfl <;> decide
theorem take_K {h : UInt8} {t : List UInt8} {K : Nat} : (((h :: t).take ((K : Int) + 1).toNat).drop (1 : Int).toNat) = t.take K := by
  rw [show ((K : Int) + 1).toNat = K + 1 by omega, show (1 : Int).toNat = 1 from rfl]
  rfl
/-! ### the reference's way -/
theorem ref_ok {xs : List UInt8} {n : Int} {K : Nat} (hn : -9223372036854775808 ≤ n ∧ n ≤ 9223372036854775807) (hl : K + 1 ≤ xs.length) (h : int n = xs.take (K + 1)) : getInt xs = (n, (K : Int) + 1, 0) := by
  have e : xs = int n ++ xs.drop (K + 1) := by rw [h, List.take_append_drop]
  have hk : (int n).length = K + 1 := by rw [h, List.length_take]; omega
  rw [e, getInt_int n hn, hk]
  rfl
theorem ref_bad {h : UInt8} {t : List UInt8} {K : Nat} {fl : UInt8} {n : Int} (hfl : fl = flipOf h) (hK : K = (h ^^^ fl).toNat - 128) (h8 : ¬ 8 < K) (hl : ¬ t.length < K) (hm : ¬ 9223372036854775808 ≤ vj t fl K K) (hn : n = if fl = 0 then (vj t fl K K : Int) else -1 - (vj t fl K K : Int)) (hne : ¬ int n = (h :: t).take (K + 1)) : getInt (h :: t) = (0, 0, 2) := by
  by_cases h0 : 0 < K ∧ t.getD 0 0 ^^^ fl = 0
  · exact gi_zero hfl hK h8 hl h0
  · exfalso
    rw [vj_K] at hm hn
    have hg := gi_ok hfl hK h8 hl h0 hm
    rw [← hn] at hg
    obtain ⟨_, h2, t', h3⟩ := getInt_canon hg
    apply hne
    rw [h3, List.take_left' (by omega)]
theorem head_flip (h : UInt8) : (h.toNat < 128 → flipOf h = 255 ∧ (h ^^^ 255).toNat - 128 = 127 - h.toNat) ∧ (¬ h.toNat < 128 → flipOf h = 0 ∧ (h ^^^ 0).toNat - 128 = h.toNat - 128) := by
  have : ∀ b : BitVec 8, ((UInt8.ofBitVec b).toNat < 128 → flipOf (UInt8.ofBitVec b) = 255 ∧ ((UInt8.ofBitVec b) ^^^ 255).toNat - 128 = 127 - (UInt8.ofBitVec b).toNat) ∧ (¬ (UInt8.ofBitVec b).toNat < 128 → flipOf (UInt8.ofBitVec b) = 0 ∧ ((UInt8.ofBitVec b) ^^^ 0).toNat - 128 = (UInt8.ofBitVec b).toNat - 128) := by decide +kernel
  exact this h.toBitVec
theorem sub_flip (d : UInt8) : (255 : Int) - (d.toNat : Int) = ((d ^^^ 255).toNat : Int) := by
  have : ∀ b : BitVec 8, (255 : Int) - ((UInt8.ofBitVec b).toNat : Int) = (((UInt8.ofBitVec b) ^^^ 255).toNat : Int) := by decide +kernel
  exact this d.toBitVec
end Wi
end Go.Fw
namespace Go.Fw
namespace Wi
/-! ### the program's count -/
def wcnt (size : Nat) (b : List UInt8) : Int × Int × Int :=
  if (getInt b).2.2 ≠ 0 then getInt b
  else if (getInt b).1 < 0 then ((getInt b).1, (getInt b).2.1, 2)
  else if ((b.length : Int) - (getInt b).2.1) / size < (getInt b).1 then ((getInt b).1, (getInt b).2.1, 3)
  else getInt b
theorem getInt_pos {b : List UInt8} (h : (getInt b).2.2 = 0) : 1 ≤ (getInt b).2.1 ∧ (getInt b).2.1 ≤ b.length ∧ (getInt b).2.1 ≤ 9 := by
  have e : getInt b = ((getInt b).1, (getInt b).2.1, 0) := by rw [← h]
  exact getInt_le e
theorem div_mul_lt (L n : Int) (s : Nat) (hs : 0 < s) (hL : 0 ≤ L) : L / s < n ↔ L < n * s := by
  have hs' : (0 : Int) < s := by omega
  exact Int.ediv_lt_iff_lt_mul hs'
theorem wcnt_cnt (s : Nat) (hs : 0 < s) (b : List UInt8) : (wcnt s b).2.2 = (cnt s b).2.2 ∧ ((cnt s b).2.2 = 0 → wcnt s b = cnt s b) := by
  unfold wcnt cnt
  split
  · rename_i h; exact ⟨rfl, fun h2 => absurd h2 h⟩
  rename_i h
  have hp := getInt_pos (b := b) (by omega)
  split
  · exact ⟨rfl, fun h2 => by simp at h2⟩
  have e := div_mul_lt ((b.length : Int) - (getInt b).2.1) (getInt b).1 s hs (by omega)
  by_cases h3 : ((b.length : Int) - (getInt b).2.1) / s < (getInt b).1
  · rw [if_pos h3, if_pos (e.1 h3)]
    exact ⟨rfl, fun h2 => by simp at h2⟩
  · rw [if_neg h3, if_neg (fun h4 => h3 (e.2 h4))]
    exact ⟨rfl, fun _ => rfl⟩
theorem wcnt_ok {s : Nat} (hs : 0 < s) {b : List UInt8} (h : (wcnt s b).2.2 = 0) : wcnt s b = cnt s b ∧ 0 ≤ (wcnt s b).1 ∧ 1 ≤ (wcnt s b).2.1 ∧ (wcnt s b).2.1 + (wcnt s b).1 * s ≤ b.length := by
  obtain ⟨h1, h2⟩ := wcnt_cnt s hs b
  rw [h1] at h
  have e := h2 h
  obtain ⟨_, h3, h4, h5, _⟩ := cnt_ok h
  rw [e]
  exact ⟨rfl, h3, h4, h5⟩
theorem wc_eq {s : Nat} {xs : List UInt8} {e : Int} (h : e = (wcnt s xs).2.2) (h1 : (wcnt s xs).1 = (getInt xs).1) (h2 : (wcnt s xs).2.1 = (getInt xs).2.1) : Value.tuple [vi (getInt xs).1, vi (getInt xs).2.1, vi e].toArray = .tuple [vi (wcnt s xs).1, vi (wcnt s xs).2.1, vi (wcnt s xs).2.2].toArray := by rw [h, h1, h2]
theorem wcnt_1 (s : Nat) (b : List UInt8) : (wcnt s b).1 = (getInt b).1 ∧ (wcnt s b).2.1 = (getInt b).2.1 := by
  unfold wcnt
  split
  · exact ⟨rfl, rfl⟩
  split
  · exact ⟨rfl, rfl⟩
  split <;> exact ⟨rfl, rfl⟩
theorem cn_eq {s : Nat} {xs : List UInt8} {a b c : Int} (h : cnt s xs = (a, b, c)) : Value.tuple [vi a, vi b, vi c].toArray = .tuple [vi (cnt s xs).1, vi (cnt s xs).2.1, vi (cnt s xs).2.2].toArray := by rw [h]
theorem cn_err {s : Nat} {xs : List UInt8} (h : ¬ (getInt xs).2.2 = 0) : cnt s xs = (0, 0, (getInt xs).2.2) := by unfold cnt; rw [if_pos h]
theorem cn_neg {s : Nat} {xs : List UInt8} (h : (getInt xs).2.2 = 0) (h1 : (getInt xs).1 < 0) : cnt s xs = (0, 0, 2) := by unfold cnt; rw [if_neg (by omega), if_pos h1]
theorem cn_more {s : Nat} (hs : 0 < s) {xs : List UInt8} (h : (getInt xs).2.2 = 0) (h1 : ¬ (getInt xs).1 < 0) (h2 : (xs.length : Int) < (getInt xs).1 ∨ (xs.length : Int) - (getInt xs).2.1 < (getInt xs).1 * s) : cnt s xs = (0, 0, 3) := by
  have hp := getInt_pos h
  have h3 : (xs.length : Int) - (getInt xs).2.1 < (getInt xs).1 * s := by
    rcases h2 with h2 | h2
    · have : (getInt xs).1 * 1 ≤ (getInt xs).1 * s := Int.mul_le_mul_of_nonneg_left (by omega) (by omega)
      omega
    · exact h2
  unfold cnt; rw [if_neg (by omega), if_neg h1, if_pos h3]
theorem cn_ok {s : Nat} {xs : List UInt8} (h : (getInt xs).2.2 = 0) (h1 : ¬ (getInt xs).1 < 0) (h2 : ¬ (xs.length : Int) < (getInt xs).1 ∧ ¬ (xs.length : Int) - (getInt xs).2.1 < (getInt xs).1 * s) : cnt s xs = ((getInt xs).1, (getInt xs).2.1, 0) := by
  unfold cnt; rw [if_neg (by omega), if_neg h1, if_neg h2.2, ← h]
theorem gb_err {c : Int × Int × Int} {xs : List UInt8} (hc : c.2.2 = (cnt 1 xs).2.2) (h : ¬ c.2.2 = 0) : Value.tuple [vs [], vi 0, vi c.2.2].toArray = .tuple [vs (getBytes xs).1, vi (getBytes xs).2.1, vi (getBytes xs).2.2].toArray := by
  have e : getBytes xs = ([], 0, (cnt 1 xs).2.2) := by unfold getBytes; rw [if_pos (by rw [← hc]; exact h)]
  rw [e, hc]
theorem gb_ok {c : Int × Int × Int} {xs : List UInt8} (hc : c = cnt 1 xs) (h : c.2.2 = 0) (h0 : 0 ≤ c.1 ∧ 0 ≤ c.2.1) : Value.tuple [vs ((xs.take (c.2.1 + c.1).toNat).drop c.2.1.toNat), vi (c.2.1 + c.1), vi 0].toArray = .tuple [vs (getBytes xs).1, vi (getBytes xs).2.1, vi (getBytes xs).2.2].toArray := by
  subst hc
  have e : getBytes xs = ((xs.drop (cnt 1 xs).2.1.toNat).take (cnt 1 xs).1.toNat, (cnt 1 xs).2.1 + (cnt 1 xs).1, 0) := by unfold getBytes; rw [if_neg (by omega)]
  rw [e, List.drop_take, show ((cnt 1 xs).2.1 + (cnt 1 xs).1).toNat - (cnt 1 xs).2.1.toNat = (cnt 1 xs).1.toNat by omega]
end Wi
end Go.Fw
