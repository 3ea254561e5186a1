/- A text of a proof over this seat: walks over the program's functions and the plain laws that they need. -/
import Derived.Test.YtcolgcdnpfpcdaaWi6
set_option linter.all false
namespace Go.Fw
namespace Wi
def Rg (n : Int) : Prop := -9223372036854775808 ≤ n ∧ n ≤ 9223372036854775807
theorem int_dec {n : Int} (h : Rg n) : getInt (int n) = (n, ((int n).length : Int), 0) := by
  have := getInt_int n h []
  rwa [List.append_nil] at this
theorem int_inj {m n : Int} (hm : Rg m) (hn : Rg n) (h : int m = int n) : m = n := by
  have h1 := int_dec hm
  rw [h, int_dec hn] at h1
  exact (congrArg (·.1) h1).symm
theorem int_pref {m n : Int} (hm : Rg m) (hn : Rg n) (h : (int m).length ≤ (int n).length) (he : (int n).take (int m).length = int m) : m = n := by
  rcases Nat.lt_or_ge (int m).length (int n).length with hl | hl
  · have h1 := getInt_short n _ hl
    rw [he, int_dec hm] at h1
    have := congrArg (·.2.2) h1
    simp at this
  · rw [List.take_of_length_le hl] at he
    exact (int_inj hn hm he).symm
theorem pre_iff {m n : Int} (hm : Rg m) (hn : Rg n) {k : Int} (hk : k = min ((int m).length : Int) ((int n).length : Int)) : (int m).take k.toNat = (int n).take k.toNat ↔ m = n := by
  constructor
  · intro h
    rcases Nat.le_total (int m).length (int n).length with hl | hl
    · have e : k.toNat = (int m).length := by omega
      rw [e, List.take_of_length_le (Nat.le_refl _)] at h
      exact int_pref hm hn hl h.symm
    · have e : k.toNat = (int n).length := by omega
      rw [e, List.take_of_length_le (Nat.le_refl _)] at h
      exact (int_pref hn hm hl h).symm
  · rintro rfl; rfl
theorem val_lex : ∀ (a b : List UInt8), a.length = b.length → (Op.bytesLess a b = true ↔ valBE a < valBE b)
  | [], [], _ => by simp [Op.bytesLess, valBE]
  | c :: a, d :: b, hl => by
    have hl' : a.length = b.length := by simpa using hl
    have ih := val_lex a b hl'
    have h1 := valBE_lt a
    have h2 := valBE_lt b
    rw [valBE_cons, valBE_cons, hl']
    rw [hl'] at h1
    simp only [Op.bytesLess, Bool.or_eq_true, Bool.and_eq_true, decide_eq_true_eq, beq_iff_eq, ih, UInt8.lt_iff_toNat_lt]
    generalize hP : 256 ^ b.length = P at h1 h2
    rcases Nat.lt_trichotomy c.toNat d.toNat with h | h | h
    · have h3 : (c.toNat + 1) * P ≤ d.toNat * P := Nat.mul_le_mul_right _ h
      rw [Nat.add_mul] at h3
      exact ⟨fun _ => by omega, fun _ => .inl h⟩
    · have e : c = d := UInt8.toNat.inj h
      subst e
      constructor
      · rintro (h4 | ⟨_, h4⟩) <;> omega
      · intro h4; exact .inr ⟨rfl, by omega⟩
    · have h3 : (d.toNat + 1) * P ≤ c.toNat * P := Nat.mul_le_mul_right _ h
      rw [Nat.add_mul] at h3
      constructor
      · rintro (h4 | ⟨rfl, _⟩) <;> omega
      · intro h4; omega
theorem flip_val (l : List UInt8) : valBE (l.map (· ^^^ 255)) + valBE l + 1 = 256 ^ l.length := by
  induction l with
  | nil => rfl
  | cons d l ih =>
    rw [List.map_cons, valBE_cons, valBE_cons, List.length_map, List.length_cons, Nat.pow_succ]
    have h := sub_flip d
    have h2 := d.toNat_lt
    have e : (d ^^^ 255).toNat = 255 - d.toNat := by omega
    rw [e]
    have h3 : (255 - d.toNat) * 256 ^ l.length + d.toNat * 256 ^ l.length = 255 * 256 ^ l.length := by rw [← Nat.add_mul]; congr 1; omega
    omega
theorem head_lt {a b : UInt8} {x y : List UInt8} (h : a.toNat < b.toNat) : Op.bytesLess (a :: x) (b :: y) = true := by
  simp only [Op.bytesLess, Bool.or_eq_true, decide_eq_true_eq, UInt8.lt_iff_toNat_lt]
  exact .inl h
theorem head_same {a : UInt8} {x y : List UInt8} : Op.bytesLess (a :: x) (a :: y) = Op.bytesLess x y := by
  simp [Op.bytesLess]
theorem head_val (n : Int) : (UInt8.ofNat (128 + nb (mOf n)) ^^^ flOf n).toNat = if n < 0 then 127 - nb (mOf n) else 128 + nb (mOf n) := by
  have hk := nb_le (mOf n)
  have : ∀ k : Nat, k ≤ 8 → (UInt8.ofNat (128 + k) ^^^ 255).toNat = 127 - k ∧ (UInt8.ofNat (128 + k) ^^^ 0).toNat = 128 + k := by decide
  obtain ⟨h1, h2⟩ := this _ hk
  rcases flOf_cases n with ⟨h, e⟩ | ⟨h, e⟩
  · rw [e, if_pos h]; exact h1
  · rw [e, if_neg (by omega)]; exact h2
theorem nb_mono {a b : UInt64} (h : a.toNat ≤ b.toNat) : nb a ≤ nb b := by
  rcases Nat.eq_zero_or_pos (nb a) with h0 | h0
  · omega
  · have h1 := nb_low a h0
    have h2 := lt_nb b
    rcases Nat.lt_or_ge (nb b) (nb a) with h3 | h3
    · have : 256 ^ nb b ≤ 256 ^ (nb a - 1) := Nat.pow_le_pow_right (by omega) (by omega)
      omega
    · exact h3
theorem order_lt {m n : Int} (hm : Rg m) (hn : Rg n) (h : m < n) : Op.bytesLess (int m) (int n) = true := by
  have e1 := mOf_mag m hm
  have e2 := mOf_mag n hn
  have k1 := nb_le (mOf m)
  have k2 := nb_le (mOf n)
  have hv1 := head_val m
  have hv2 := head_val n
  unfold mag at e1 e2
  unfold int
  by_cases hm0 : m < 0
  · rw [if_pos hm0] at e1 hv1
    by_cases hn0 : n < 0
    · rw [if_pos hn0] at e2 hv2
      have hmon := nb_mono (a := mOf n) (b := mOf m) (by omega)
      rcases Nat.lt_or_ge (nb (mOf n)) (nb (mOf m)) with hk | hk
      · exact head_lt (by omega)
      · have ek : nb (mOf m) = nb (mOf n) := by omega
        have f1 : flOf m = 255 := by unfold flOf; rw [if_pos hm0]
        have f2 : flOf n = 255 := by unfold flOf; rw [if_pos hn0]
        rw [ek, f1, f2, head_same]
        refine (val_lex _ _ (by rw [digs_len, digs_len])).2 ?_
        have g1 := flip_val (digsFrom (mOf m) 0 (nb (mOf n)) 0)
        have g2 := flip_val (digsFrom (mOf n) 0 (nb (mOf n)) 0)
        have v1 := val_int (mOf m)
        have v2 := val_int (mOf n)
        rw [ek] at v1
        rw [v1, digs_len] at g1
        rw [v2, digs_len] at g2
        rw [digs_map (mOf m), digs_map (mOf n)]
        omega
    · rw [if_neg hn0] at hv2
      exact head_lt (by omega)
  · have hn0 : ¬ n < 0 := by omega
    rw [if_neg hm0] at e1 hv1
    rw [if_neg hn0] at e2 hv2
    have hmon := nb_mono (a := mOf m) (b := mOf n) (by omega)
    rcases Nat.lt_or_ge (nb (mOf m)) (nb (mOf n)) with hk | hk
    · exact head_lt (by omega)
    · have ek : nb (mOf m) = nb (mOf n) := by omega
      have f1 : flOf m = 0 := by unfold flOf; rw [if_neg hm0]
      have f2 : flOf n = 0 := by unfold flOf; rw [if_neg hn0]
      rw [ek, f1, f2, head_same]
      refine (val_lex _ _ (by rw [digs_len, digs_len])).2 ?_
      have v1 := val_int (mOf m)
      have v2 := val_int (mOf n)
      rw [ek] at v1
      omega
theorem less_anti : ∀ (a b : List UInt8), Op.bytesLess a b = true → Op.bytesLess b a = false
  | [], [], h => by simp [Op.bytesLess] at h
  | [], _ :: _, _ => by simp [Op.bytesLess]
  | _ :: _, [], h => by simp [Op.bytesLess] at h
  | a :: x, b :: y, h => by
    have ih := less_anti x y
    simp only [Op.bytesLess, Bool.or_eq_true, Bool.and_eq_true, decide_eq_true_eq, beq_iff_eq, UInt8.lt_iff_toNat_lt] at h
    rw [Bool.eq_false_iff]
    intro h2
    simp only [Op.bytesLess, Bool.or_eq_true, Bool.and_eq_true, decide_eq_true_eq, beq_iff_eq, UInt8.lt_iff_toNat_lt] at h2
    rcases h with h | ⟨rfl, h⟩
    · rcases h2 with h2 | ⟨rfl, _⟩ <;> omega
    · rcases h2 with h2 | ⟨_, h2⟩
      · omega
      · rw [ih h] at h2; cases h2
theorem less_irr : ∀ (a : List UInt8), Op.bytesLess a a = false
  | [] => rfl
  | a :: x => by rw [head_same]; exact less_irr x
theorem order_eq {m n : Int} (hm : Rg m) (hn : Rg n) : (decide (m < n) == Op.bytesLess (int m) (int n)) = true := by
  rcases Int.lt_trichotomy m n with h | rfl | h
  · rw [order_lt hm hn h]; simp [h]
  · rw [less_irr]; simp
  · rw [less_anti _ _ (order_lt hn hm h)]
    have : ¬ m < n := by omega
    simp [this]
theorem same_iff {p q : Prop} [Decidable p] [Decidable q] (h : p ↔ q) : (decide p == decide q) = true := by
  have e : decide p = decide q := decide_eq_decide.2 h
  rw [e]
  cases decide q <;> rfl
end Wi
end Go.Fw
