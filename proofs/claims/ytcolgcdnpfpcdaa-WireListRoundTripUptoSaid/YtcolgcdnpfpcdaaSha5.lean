/- A text of a proof over this seat: walks over the program's functions and the plain laws that they need. -/
import Derived.Test.YtcolgcdnpfpcdaaSha4
set_option linter.all false
namespace Go.Fw
namespace Sha
def blkAt (m : List UInt8) (i : Nat) : List UInt8 := (m.take (64 * i + 64)).drop (64 * i)
def refS (m : List UInt8) : Nat → List UInt32
  | 0 => init
  | i + 1 => comp (refS m i) (blkAt m i)
theorem refS_len (m : List UInt8) : ∀ i, (refS m i).length = 8
  | 0 => rfl
  | i + 1 => comp_len _ _ (refS_len m i)
theorem blkAt_len (m : List UInt8) (i : Nat) (h : 64 * i + 64 ≤ m.length) : (blkAt m i).length = 64 := by simp [blkAt]; omega
theorem refS_adds (m : List UInt8) : ∀ i, 64 * i ≤ m.length → (adds begin_ (m.take (64 * i))).st = refS m i ∧ (adds begin_ (m.take (64 * i))).n.toNat % 64 = 0
  | 0, _ => by simp [adds, refS, begin_]
  | i + 1, h => by
    have ih := refS_adds m i (by omega)
    have hl := adds_len begin_ begin_8 begin_64 (m.take (64 * i))
    have e : m.take (64 * (i + 1)) = m.take (64 * i) ++ blkAt m i := by
      unfold blkAt
      rw [List.drop_take, show 64 * i + 64 - 64 * i = 64 by omega, show 64 * (i + 1) = 64 * i + 64 by omega, List.take_add]
    have hb := blkAt_len m i (by omega)
    rw [e, adds_app, adds_part _ 0 ih.2 hl.2 64 (blkAt m i) hb (by omega)]
    refine ⟨?_, ?_⟩
    · dsimp only
      rw [if_pos (by omega), ih.1, List.drop_of_length_le (by omega)]
      simp [refS]
    · dsimp only
      rw [at_add, ih.2]
theorem pad_at (n : Nat) (h : n < 18446744073709551616) : (pad (ofq (n : Int))).length = 1 + zerosFor n + 8 := by
  have hq : (ofq (n : Int)).toNat = n := by have := ofq_toNat (n : Int); omega
  simp only [pad, hq, List.length_cons, List.length_append, List.length_replicate, be8_len]
  omega
theorem sum_ref (xs : List UInt8) (h : xs.length < 18446744073709551616) (k : Nat) (hk : (xs ++ pad (ofq (xs.length : Int))).length = 64 * k) : sum xs = outB (refS (xs ++ pad (ofq (xs.length : Int))) k) := by
  have h1 := refS_adds (xs ++ pad (ofq (xs.length : Int))) k (by omega)
  rw [List.take_of_length_le (by omega)] at h1
  rw [← h1.1]
  unfold sum fin
  rw [adds_app, adds_n begin_ xs]
  have : begin_.n + ofq (xs.length : Int) = ofq (xs.length : Int) := by show (0 : UInt64) + _ = _; simp
  rw [this]
theorem mod_pad (xs : List UInt8) (h : xs.length < 18446744073709551616) : (xs ++ pad (ofq (xs.length : Int))).length % 64 = 0 := by
  have := zeros_at xs.length
  rw [List.length_append, pad_at _ h]
  omega
theorem xor_ff (x : UInt32) : x ^^^ 4294967295 = ~~~x := by
  apply UInt32.toBitVec_inj.1
  show x.toBitVec ^^^ 4294967295#32 = ~~~x.toBitVec
  rw [show (4294967295#32 : BitVec 32) = BitVec.allOnes 32 by decide, BitVec.xor_allOnes]
end Sha
end Go.Fw
