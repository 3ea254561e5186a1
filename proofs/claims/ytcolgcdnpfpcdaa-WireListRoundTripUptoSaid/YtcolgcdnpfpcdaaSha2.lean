/- A text of a proof over this seat: walks over the program's functions and the plain laws that they need. -/
import Derived.Test.YtcolgcdnpfpcdaaSha
set_option linter.all false
namespace Go.Fw
namespace Sha
theorem at_sgn (n : UInt64) : sgn (n % 64) = ((n.toNat % 64 : Nat) : Int) := by
  have h : (n % 64).toNat = n.toNat % 64 := by simp
  unfold sgn
  rw [h]
  split <;> omega
theorem at_add (n : UInt64) (m : Nat) : (n + ofq (m : Int)).toNat % 64 = (n.toNat % 64 + m) % 64 := by
  have h1 := ofq_toNat (m : Int)
  rw [UInt64.toNat_add]
  omega
theorem adds_app (s : Stm) (a b : List UInt8) : adds s (a ++ b) = adds (adds s a) b := by simp [adds]
theorem adds_snoc (s : Stm) (a : List UInt8) (c : UInt8) : adds s (a ++ [c]) = addB (adds s a) c := by simp [adds]
theorem set_mid (l : List UInt8) (v : List UInt8) (q : Nat) (c : UInt8) (h : q + v.length < l.length) :
    (l.take q ++ (v ++ l.drop (q + v.length))).set (q + v.length) c = l.take q ++ ((v ++ [c]) ++ l.drop (q + (v ++ [c]).length)) := by
  have e : (l.take q).length = q := by simp; omega
  rw [List.set_append_right _ _ (by omega), e, Nat.add_sub_cancel_left, List.set_append_right _ _ (by omega), Nat.sub_self, List.append_assoc]
  congr 2
  rw [List.drop_eq_getElem_cons h]
  simp [Nat.add_assoc]
theorem ofq_add (a b : Nat) : ofq ((a + b : Nat) : Int) = ofq (a : Int) + ofq (b : Int) := by
  apply UInt64.toNat.inj
  rw [UInt64.toNat_add]
  have h1 := ofq_toNat ((a + b : Nat) : Int)
  have h2 := ofq_toNat (a : Int)
  have h3 := ofq_toNat (b : Int)
  omega
theorem adds_part (s : Stm) (q : Nat) (hq : s.n.toNat % 64 = q) (h64 : s.bl.length = 64) : ∀ (m : Nat) (u : List UInt8), u.length = m → q + m ≤ 64 →
    adds s u = ⟨if q + m = 64 then comp s.st (s.bl.take q ++ (u ++ s.bl.drop (q + m))) else s.st, s.bl.take q ++ (u ++ s.bl.drop (q + m)), s.n + ofq (m : Int)⟩ := by
  intro m
  induction m with
  | zero =>
    intro u hu hm
    have hq2 : q < 64 := by omega
    have : u = [] := List.eq_nil_of_length_eq_zero hu
    subst this
    have h0 : ofq ((0 : Nat) : Int) = 0 := by decide
    rw [h0, if_neg (by omega)]
    simp [adds]
  | succ m ih =>
    intro u hu hm
    obtain ⟨v, c, rfl⟩ : ∃ v c, u = v ++ [c] := by
      refine ⟨u.dropLast, u.getLast (by intro e; rw [e] at hu; simp at hu), ?_⟩
      exact (List.dropLast_concat_getLast _).symm
    have hv : v.length = m := by simpa using hu
    subst hv
    rw [adds_snoc, ih v rfl (by omega), if_neg (by omega)]
    have ha : (s.n + ofq (v.length : Int)).toNat % 64 = q + v.length := by rw [at_add, hq]; omega
    unfold addB
    simp only [ha]
    have hs := set_mid s.bl v q c (by omega)
    have hl : (v ++ [c]).length = v.length + 1 := by simp
    rw [hs, hl]
    congr 1
    · by_cases h : q + v.length = 63
      · rw [if_pos h, if_pos (by omega)]
      · rw [if_neg h, if_neg (by omega)]
    · rw [ofq_add, UInt64.add_assoc]
      rfl
theorem adds_chunk (s : Stm) (t : List UInt8) (q k : Nat) (hq : s.n.toNat % 64 = q) (h64 : s.bl.length = 64) (hk : k ≤ t.length) (hk2 : q + k ≤ 64) :
    adds s t = adds ⟨if q + k = 64 then comp s.st (s.bl.take q ++ (t.take k ++ s.bl.drop (q + k))) else s.st, s.bl.take q ++ (t.take k ++ s.bl.drop (q + k)), s.n + ofq (k : Int)⟩ (t.drop k) := by
  rw [← adds_part s q hq h64 k (t.take k) (by simp; omega) hk2, ← adds_app, List.take_append_drop]
theorem adds_len (s : Stm) (h8 : s.st.length = 8) (h64 : s.bl.length = 64) (t : List UInt8) : (adds s t).st.length = 8 ∧ (adds s t).bl.length = 64 := by
  induction t generalizing s with
  | nil => exact ⟨h8, h64⟩
  | cons c t ih =>
    refine ih (addB s c) ?_ ?_
    · unfold addB; dsimp only; split
      · exact comp_len _ _ h8
      · exact h8
    · simp [addB, h64]
end Sha
end Go.Fw
