/- A text of a proof over this seat: walks over the program's functions and the plain laws that they need. -/
import Derived.Test.YtcolgcdnpfpcdaaSha3
set_option linter.all false
namespace Go.Fw
namespace Sha
/-! ### the document's own way -/
theorem rotr_q (x : UInt32) (n : Int) (h : 0 < n ∧ n < 32) : UInt32.ofNat (x.toNat / 2 ^ (min n.toNat 32)) ||| ofw ((x.toNat : Int) * 2 ^ (min (32 - n).toNat 32)) = rotr x (UInt32.ofNat n.toNat) := by
  obtain ⟨k, rfl⟩ := Int.eq_ofNat_of_zero_le (show 0 ≤ n by omega)
  rw [Int.toNat_natCast, show min k 32 = k by omega, show min (32 - (k : Int)).toNat 32 = 32 - k by omega, shlw _ _ (by omega), shrw _ _ (by omega)]
  unfold rotr
  have e : UInt32.ofNat (32 - k) = 32 - UInt32.ofNat k := by
    apply UInt32.toNat.inj
    rw [UInt32.toNat_ofNat', UInt32.toNat_sub, UInt32.toNat_ofNat']
    simp
    omega
  rw [e]
theorem schW_set16 (b : List UInt8) (t : Nat) (h : t < 16) : (schW b t).set t (word b t) = schW b (t + 1) := by
  rw [schW_A b t (by omega), ← acc4_word, ← schA_end b t h]
  unfold schA
  rw [List.set_append_right _ _ (by rw [sch_len]; exact Nat.le_refl _), sch_len, Nat.sub_self, List.set_cons_zero]
theorem word_step (bb : List UInt8) (t : Int) (h0 : 0 ≤ t) (h1 : t < 16) :
    (schW bb t.toNat).set t.toNat (ofw (((ofw (((bb.getD (4 * t).toNat 0).toNat : Int))).toNat : Int) * 2 ^ min (Int.toNat 24) 32) ||| ofw (((ofw (((bb.getD (4 * t + 1).toNat 0).toNat : Int))).toNat : Int) * 2 ^ min (Int.toNat 16) 32) ||| ofw (((ofw (((bb.getD (4 * t + 2).toNat 0).toNat : Int))).toNat : Int) * 2 ^ min (Int.toNat 8) 32) ||| ofw (((bb.getD (4 * t + 3).toNat 0).toNat : Int))) = schW bb (t + 1).toNat := by
  obtain ⟨t, rfl⟩ := Int.eq_ofNat_of_zero_le h0
  rw [show ((t : Int) + 1).toNat = t + 1 by omega, ← schW_set16 bb t (by omega)]
  simp only [Int.toNat_natCast]
  rw [show (4 * (t : Int)).toNat = 4 * t by omega, show (4 * (t : Int) + 1).toNat = 4 * t + 1 by omega, show (4 * (t : Int) + 2).toNat = 4 * t + 2 by omega, show (4 * (t : Int) + 3).toNat = 4 * t + 3 by omega,
    show min (Int.toNat 24) 32 = 24 from rfl, show min (Int.toNat 16) 32 = 16 from rfl, show min (Int.toNat 8) 32 = 8 from rfl, cvbw, cvbw, cvbw, cvbw, shlw _ 24 (by omega), shlw _ 16 (by omega), shlw _ 8 (by omega)]
  rfl
theorem ref_step (bb : List UInt8) (t : Int) (h1 : 16 ≤ t) (h2 : t < 64) :
    ((schW bb t.toNat).set t.toNat ((schW bb t.toNat).getD (t - 16).toNat 0 + (rotr ((schW bb t.toNat).getD (t - 15).toNat 0) (UInt32.ofNat (Int.toNat 7)) ^^^ rotr ((schW bb t.toNat).getD (t - 15).toNat 0) (UInt32.ofNat (Int.toNat 18)) ^^^ UInt32.ofNat (((schW bb t.toNat).getD (t - 15).toNat 0).toNat / 2 ^ min (Int.toNat 3) 32)) + (schW bb t.toNat).getD (t - 7).toNat 0 +
      (rotr ((schW bb t.toNat).getD (t - 2).toNat 0) (UInt32.ofNat (Int.toNat 17)) ^^^ rotr ((schW bb t.toNat).getD (t - 2).toNat 0) (UInt32.ofNat (Int.toNat 19)) ^^^ UInt32.ofNat (((schW bb t.toNat).getD (t - 2).toNat 0).toNat / 2 ^ min (Int.toNat 10) 32)))) = schW bb (t + 1).toNat := by
  rw [← sch_step bb t h1 h2]
  have e := rotl_rotr
  rw [show (-7 : Int) = -((7 : Nat) : Int) from rfl, show (-18 : Int) = -((18 : Nat) : Int) from rfl, show (-17 : Int) = -((17 : Nat) : Int) from rfl, show (-19 : Int) = -((19 : Nat) : Int) from rfl, e _ 7 (by omega) (by omega), e _ 18 (by omega) (by omega), e _ 17 (by omega) (by omega), e _ 19 (by omega) (by omega)]
  rfl
end Sha
end Go.Fw
