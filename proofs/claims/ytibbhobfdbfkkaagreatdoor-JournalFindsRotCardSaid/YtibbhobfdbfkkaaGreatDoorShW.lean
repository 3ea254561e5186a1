/- A text of a proof over this seat: walks over the program's functions and the plain laws that they need. -/
import Derived.Test.YtibbhobfdbfkkaaGreatDoorFwA
import Derived.Test.YtibbhobfdbfkkaaGreatDoorGuA
set_option linter.all false
section
/- SHA-256 in plain words: what the walks compute, and that it is one thing. -/
namespace Go.Fw
namespace Sha

def kc : List UInt32 := [1116352408, 1899447441, 3049323471, 3921009573, 961987163, 1508970993, 2453635748, 2870763221, 3624381080, 310598401, 607225278, 1426881987, 1925078388, 2162078206, 2614888103, 3248222580, 3835390401, 4022224774, 264347078, 604807628, 770255983, 1249150122, 1555081692, 1996064986, 2554220882, 2821834349, 2952996808, 3210313671, 3336571891, 3584528711, 113926993, 338241895, 666307205, 773529912, 1294757372, 1396182291, 1695183700, 1986661051, 2177026350, 2456956037, 2730485921, 2820302411, 3259730800, 3345764771, 3516065817, 3600352804, 4094571909, 275423344, 430227734, 506948616, 659060556, 883997877, 958139571, 1322822218, 1537002063, 1747873779, 1955562222, 2024104815, 2227730452, 2361852424, 2428436474, 2756734187, 3204031479, 3329325298]

def rotr (x : UInt32) (n : UInt32) : UInt32 := (x >>> n) ||| (x <<< (32 - n))
def word (b : List UInt8) (t : Nat) : UInt32 :=
  ((b.getD (4 * t) 0).toUInt32 <<< 24) ||| ((b.getD (4 * t + 1) 0).toUInt32 <<< 16) ||| ((b.getD (4 * t + 2) 0).toUInt32 <<< 8) ||| (b.getD (4 * t + 3) 0).toUInt32
def s0 (x : UInt32) : UInt32 := rotr x 7 ^^^ rotr x 18 ^^^ (x >>> 3)
def s1 (x : UInt32) : UInt32 := rotr x 17 ^^^ rotr x 19 ^^^ (x >>> 10)
/-- The first t words of a block's schedule. -/
def sch (b : List UInt8) : Nat → List UInt32
  | 0 => []
  | t + 1 => let w := sch b t; w ++ [if t < 16 then word b t else w.getD (t - 16) 0 + s0 (w.getD (t - 15) 0) + w.getD (t - 7) 0 + s1 (w.getD (t - 2) 0)]

abbrev S8 := UInt32 × UInt32 × UInt32 × UInt32 × UInt32 × UInt32 × UInt32 × UInt32
def big1 (e : UInt32) : UInt32 := rotr e 6 ^^^ rotr e 11 ^^^ rotr e 25
def big0 (a : UInt32) : UInt32 := rotr a 2 ^^^ rotr a 13 ^^^ rotr a 22
def rnd (s : S8) (k w : UInt32) : S8 :=
  match s with
  | (a, b, c, d, e, f, g, h) =>
    let x := h + big1 e + ((e &&& f) ^^^ (~~~e &&& g)) + k + w
    let y := big0 a + ((a &&& b) ^^^ (a &&& c) ^^^ (b &&& c))
    (x + y, a, b, c, d + x, e, f, g)
def rounds (ws : List UInt32) (s : S8) : Nat → S8
  | 0 => s
  | t + 1 => rnd (rounds ws s t) (kc.getD t 0) (ws.getD t 0)
def l8 (s : S8) : List UInt32 := match s with | (a, b, c, d, e, f, g, h) => [a, b, c, d, e, f, g, h]
def s8 (l : List UInt32) : S8 := (l.getD 0 0, l.getD 1 0, l.getD 2 0, l.getD 3 0, l.getD 4 0, l.getD 5 0, l.getD 6 0, l.getD 7 0)
/-- A block into a hash value. -/
def comp (s : List UInt32) (b : List UInt8) : List UInt32 := List.zipWith (· + ·) s (l8 (rounds (sch b 64) (s8 s) 64))

def init : List UInt32 := [0x6a09e667, 0xbb67ae85, 0x3c6ef372, 0xa54ff53a, 0x510e527f, 0x9b05688c, 0x1f83d9ab, 0x5be0cd19]

/-- The stream: the hash value, the block, the count. -/
structure Stm where
  st : List UInt32
  bl : List UInt8
  n : UInt64
def addB (s : Stm) (c : UInt8) : Stm :=
  let bl := s.bl.set (s.n.toNat % 64) c
  { st := if s.n.toNat % 64 = 63 then comp s.st bl else s.st, bl := bl, n := s.n + 1 }
def adds (s : Stm) (t : List UInt8) : Stm := t.foldl addB s
def begin_ : Stm := ⟨init, List.replicate 64 0, 0⟩
def be8 (n : UInt64) : List UInt8 := (List.range 8).map fun i => UInt8.ofNat (n.toNat / 2 ^ (56 - 8 * i))
def zerosFor (n : Nat) : Nat := (119 - n % 64) % 64
def pad (n : UInt64) : List UInt8 := 128 :: (List.replicate (zerosFor n.toNat) 0 ++ be8 (8 * n))
def outB (st : List UInt32) : List UInt8 := (List.range 32).map fun i => UInt8.ofNat ((st.getD (i / 4) 0).toNat / 2 ^ (24 - 8 * (i % 4)))
def fin (s : Stm) : List UInt8 := outB (adds s (pad s.n)).st
/-- The hash. -/
def sum (m : List UInt8) : List UInt8 := fin (adds begin_ m)

theorem sch_len (b : List UInt8) : ∀ t, (sch b t).length = t
  | 0 => rfl
  | t + 1 => by simp [sch, sch_len b t]
theorem comp_len (s : List UInt32) (b : List UInt8) (h : s.length = 8) : (comp s b).length = 8 := by
  simp [comp, h, l8]


/-! ### what the walks meet -/
def rotl (x : UInt32) (k : Int) : UInt32 := ofw ((x.toNat : Int) * 2 ^ (min (((ofq k &&& 31).toNat : Int)).toNat 32)) ||| UInt32.ofNat (x.toNat / 2 ^ (min (((32 : UInt64) - (ofq k &&& 31)).toNat : Int).toNat 32))
theorem shlw (x : UInt32) (k : Nat) (hk : k < 32) : ofw ((x.toNat : Int) * 2 ^ k) = x <<< UInt32.ofNat k := by
  apply UInt32.toNat_inj.1
  have h1 := ofw_toNat ((x.toNat : Int) * 2 ^ k)
  have h2 : (UInt32.ofNat k).toNat = k := by rw [UInt32.toNat_ofNat']; exact Nat.mod_eq_of_lt (by omega)
  rw [UInt32.toNat_shiftLeft, h2, Nat.mod_eq_of_lt hk, Nat.shiftLeft_eq]
  have h3 : ((x.toNat : Int) * 2 ^ k) = ((x.toNat * 2 ^ k : Nat) : Int) := by simp
  rw [h3] at h1 ⊢
  omega
theorem shrw (x : UInt32) (k : Nat) (hk : k < 32) : UInt32.ofNat (x.toNat / 2 ^ k) = x >>> UInt32.ofNat k := by
  apply UInt32.toNat_inj.1
  have h2 : (UInt32.ofNat k).toNat = k := by rw [UInt32.toNat_ofNat']; exact Nat.mod_eq_of_lt (by omega)
  rw [UInt32.toNat_shiftRight, h2, Nat.mod_eq_of_lt hk, Nat.shiftRight_eq_div_pow, UInt32.toNat_ofNat']
  have := Nat.div_le_self x.toNat (2 ^ k)
  have := x.toNat_lt
  exact Nat.mod_eq_of_lt (by omega)
theorem cvbw (c : UInt8) : ofw (c.toNat : Int) = c.toUInt32 := by
  apply UInt32.toNat_inj.1
  have h1 := ofw_toNat (c.toNat : Int)
  have := c.toNat_lt
  rw [UInt8.toNat_toUInt32]
  omega
theorem rotl_rotr (x : UInt32) (k : Nat) (h1 : 0 < k) (h2 : k < 32) : rotl x (-(k : Int)) = rotr x (UInt32.ofNat k) := by
  have e1 : ((ofq (-(k : Int)) &&& 31).toNat) = 32 - k := by
    have h3 := ofq_toNat (-(k : Int))
    rw [UInt64.toNat_and]
    have h4 : (ofq (-(k : Int))).toNat = 18446744073709551616 - k := by omega
    rw [h4, show (31 : UInt64).toNat = 2 ^ 5 - 1 from rfl, Nat.and_two_pow_sub_one_eq_mod]
    omega
  have e2 : (((32 : UInt64) - (ofq (-(k : Int)) &&& 31)).toNat) = k := by
    rw [UInt64.toNat_sub, e1, show (32 : UInt64).toNat = 32 from rfl]
    omega
  unfold rotl rotr
  rw [e1, e2, Int.toNat_natCast, Int.toNat_natCast, Nat.min_eq_left (by omega), Nat.min_eq_left (by omega), shlw x _ (by omega), shrw x k h2, UInt32.or_comm]
  congr 1
  congr 1
  apply UInt32.toNat_inj.1
  rw [UInt32.toNat_sub, UInt32.toNat_ofNat', UInt32.toNat_ofNat', show (32 : UInt32).toNat = 32 from rfl]
  omega

/-- The bytes of a word, one by one. -/
def acc4 (b : List UInt8) (t : Nat) : Nat → UInt32
  | 0 => 0
  | j + 1 => (acc4 b t j <<< 8) ||| (b.getD (4 * t + j) 0).toUInt32
theorem acc4_word (b : List UInt8) (t : Nat) : acc4 b t 4 = word b t := by
  simp only [acc4, word, Nat.add_zero]
  apply UInt32.toBitVec_inj.1
  have e8 : (8:UInt32).toBitVec % 32#32 = 8#32 := by decide
  have e24 : (24:UInt32).toBitVec % 32#32 = 24#32 := by decide
  have e16 : (16:UInt32).toBitVec % 32#32 = 16#32 := by decide
  have e0 : (0:UInt32).toBitVec = 0#32 := rfl
  simp only [UInt32.toBitVec_or, UInt32.toBitVec_shiftLeft, e8, e24, e16, e0]
  simp [BitVec.shiftLeft_or_distrib, ← BitVec.shiftLeft_add]

/-! ### the schedule, word by word -/
def schW (b : List UInt8) (t : Nat) : List UInt32 := sch b t ++ List.replicate (64 - t) 0
def schA (b : List UInt8) (t j : Nat) : List UInt32 := sch b t ++ (acc4 b t j :: List.replicate (63 - t) 0)
theorem schW_len (b : List UInt8) (t : Nat) (h : t ≤ 64) : (schW b t).length = 64 := by simp [schW, sch_len]; omega
theorem schA_len (b : List UInt8) (t j : Nat) (h : t < 64) : (schA b t j).length = 64 := by simp [schA, sch_len]; omega
theorem schW_A (b : List UInt8) (t : Nat) (h : t < 64) : schW b t = schA b t 0 := by
  unfold schW schA acc4
  rw [show 64 - t = (63 - t) + 1 by omega, List.replicate_succ]
theorem schA_at (b : List UInt8) (t j : Nat) : (schA b t j).getD t 0 = acc4 b t j := by
  simp [schA, sch_len]
theorem schA_set (b : List UInt8) (t j : Nat) (x : UInt32) (hx : x = acc4 b t (j + 1)) : (schA b t j).set t x = schA b t (j + 1) := by
  subst hx
  unfold schA
  rw [List.set_append_right _ _ (by rw [sch_len]; exact Nat.le_refl _), sch_len, Nat.sub_self, List.set_cons_zero]
theorem schA_end (b : List UInt8) (t : Nat) (h : t < 16) : schA b t 4 = schW b (t + 1) := by
  unfold schA schW
  rw [acc4_word, sch]
  simp only [if_pos h, List.append_assoc, List.cons_append, List.nil_append]
  rw [show 64 - (t + 1) = 63 - t by omega]
theorem schW_at (b : List UInt8) (t k : Nat) (h : k < t) : (schW b t).getD k 0 = (sch b t).getD k 0 := by
  unfold schW
  simp only [List.getD_eq_getElem?_getD]
  rw [List.getElem?_append_left (by rw [sch_len]; exact h)]
theorem schW_set (b : List UInt8) (t : Nat) (h1 : 16 ≤ t) (h2 : t < 64) (x : UInt32)
    (hx : x = (sch b t).getD (t - 16) 0 + s0 ((sch b t).getD (t - 15) 0) + (sch b t).getD (t - 7) 0 + s1 ((sch b t).getD (t - 2) 0)) : (schW b t).set t x = schW b (t + 1) := by
  subst hx
  rw [schW_A b t h2]
  unfold schA schW
  rw [List.set_append_right _ _ (by rw [sch_len]; exact Nat.le_refl _), sch_len, Nat.sub_self, List.set_cons_zero, sch]
  simp only [if_neg (show ¬ t < 16 by omega), List.append_assoc, List.cons_append, List.nil_append]
  rw [show 64 - (t + 1) = 63 - t by omega]
theorem schW_64 (b : List UInt8) : schW b 64 = sch b 64 := by simp [schW]

theorem acc_step (bb : List UInt8) (t j : Int) (h0 : 0 ≤ t) (h1 : t < 16) (h2 : 0 ≤ j) (h3 : j < 4) (hl : bb.length = 64) :
    (schA bb t.toNat j.toNat).set t.toNat (ofw (((schA bb t.toNat j.toNat).getD t.toNat 0).toNat * 2 ^ min (Int.toNat 8) 32) ||| ofw (((List.drop (4 * t).toNat (List.take (4 * t + 4).toNat bb)).getD j.toNat 0).toNat : Int)) = schA bb t.toNat (j + 1).toNat := by
  obtain ⟨t, rfl⟩ := Int.eq_ofNat_of_zero_le h0
  obtain ⟨j, rfl⟩ := Int.eq_ofNat_of_zero_le h2
  simp only [Int.toNat_natCast]
  rw [show ((j : Int) + 1).toNat = j + 1 by omega, show (4 * (t : Int)).toNat = 4 * t by omega, show (4 * (t : Int) + 4).toNat = 4 * t + 4 by omega, show min (Int.toNat 8) 32 = 8 from rfl]
  refine schA_set bb t j _ ?_
  rw [schA_at, shlw _ 8 (by omega), cvbw, acc4]
  congr 2
  simp only [List.getD_eq_getElem?_getD]
  rw [List.getElem?_drop, List.getElem?_take, if_pos (by omega)]
theorem sch_step (bb : List UInt8) (t : Int) (h1 : 16 ≤ t) (h2 : t < 64) :
    ((schW bb t.toNat).set t.toNat ((schW bb t.toNat).getD (t - 16).toNat 0 + (rotl ((schW bb t.toNat).getD (t - 15).toNat 0) (-7) ^^^ rotl ((schW bb t.toNat).getD (t - 15).toNat 0) (-18) ^^^ UInt32.ofNat (((schW bb t.toNat).getD (t - 15).toNat 0).toNat / 2 ^ min (Int.toNat 3) 32)) + (schW bb t.toNat).getD (t - 7).toNat 0 +
      (rotl ((schW bb t.toNat).getD (t - 2).toNat 0) (-17) ^^^ rotl ((schW bb t.toNat).getD (t - 2).toNat 0) (-19) ^^^ UInt32.ofNat (((schW bb t.toNat).getD (t - 2).toNat 0).toNat / 2 ^ min (Int.toNat 10) 32)))) = schW bb (t + 1).toNat := by
  obtain ⟨t, rfl⟩ := Int.eq_ofNat_of_zero_le (show 0 ≤ t by omega)
  simp only [Int.toNat_natCast]
  rw [show ((t : Int) + 1).toNat = t + 1 by omega, show ((t : Int) - 16).toNat = t - 16 by omega, show ((t : Int) - 15).toNat = t - 15 by omega, show ((t : Int) - 7).toNat = t - 7 by omega, show ((t : Int) - 2).toNat = t - 2 by omega, show min (Int.toNat 3) 32 = 3 from rfl, show min (Int.toNat 10) 32 = 10 from rfl]
  refine schW_set bb t (by omega) (by omega) _ ?_
  rw [schW_at bb t _ (by omega), schW_at bb t _ (by omega), schW_at bb t _ (by omega), schW_at bb t _ (by omega), shrw _ 3 (by omega), shrw _ 10 (by omega)]
  have e := rotl_rotr
  have e7 := fun x => e x 7 (by omega) (by omega)
  have e18 := fun x => e x 18 (by omega) (by omega)
  have e17 := fun x => e x 17 (by omega) (by omega)
  have e19 := fun x => e x 19 (by omega) (by omega)
  unfold s0 s1
  rw [show (-7 : Int) = -((7 : Nat) : Int) from rfl, show (-18 : Int) = -((18 : Nat) : Int) from rfl, show (-17 : Int) = -((17 : Nat) : Int) from rfl, show (-19 : Int) = -((19 : Nat) : Int) from rfl, e7, e18, e17, e19]
  rfl

/-- The sums, after i steps of four. -/
def upd (ss fin : List UInt32) (i : Nat) : List UInt32 := (List.range 8).map fun j => if j % 4 < i then ss.getD j 0 + fin.getD j 0 else ss.getD j 0
theorem upd_len (ss fin : List UInt32) (i : Nat) : (upd ss fin i).length = 8 := by simp [upd]
theorem list8 {l : List UInt32} (h : l.length = 8) : ∃ a b c d e f g k, l = [a, b, c, d, e, f, g, k] := by
  match l, h with
  | [a, b, c, d, e, f, g, k], _ => exact ⟨a, b, c, d, e, f, g, k, rfl⟩
theorem mix_rotr (x : UInt32) (i j k : Int) (hi : 0 < i ∧ i < 32) (hj : 0 < j ∧ j < 32) (hk : 0 < k ∧ k < 32) :
    rotl x (-i) ^^^ rotl x (-j) ^^^ rotl x (-k) = rotr x (UInt32.ofNat i.toNat) ^^^ rotr x (UInt32.ofNat j.toNat) ^^^ rotr x (UInt32.ofNat k.toNat) := by
  have e := fun (n : Int) (h : 0 < n ∧ n < 32) => rotl_rotr x n.toNat (by omega) (by omega)
  have e1 := e i hi
  have e2 := e j hj
  have e3 := e k hk
  rw [Int.toNat_of_nonneg (by omega)] at e1 e2 e3
  rw [e1, e2, e3]
theorem rounds_succ (ws : List UInt32) (s : S8) (i : Int) (h : 0 ≤ i) : rounds ws s (i + 1).toNat = rnd (rounds ws s i.toNat) (kc.getD i.toNat 0) (ws.getD i.toNat 0) := by
  rw [show (i + 1).toNat = i.toNat + 1 by omega]
  rfl
end Sha
end Go.Fw
end

section
namespace Go.Fw
namespace Sha
theorem at_sgn (n : UInt64) : sgn (n % 64) = ((n.toNat % 64 : Nat) : Int) := by
  have h : (n % 64).toNat = n.toNat % 64 := by simp
  unfold sgn
  rw [h]
  split <;> omega
theorem at_add (n : UInt64) (m : Nat) : (n + ofq (m : Int)).toNat % 64 = (n.toNat % 64 + m) % 64 := by
  have h1 := ofq_toNat (m : Int)
  rw [UInt64.toNat_add]
  omega
theorem adds_app (s : Stm) (a b : List UInt8) : adds s (a ++ b) = adds (adds s a) b := by simp [adds]
theorem adds_snoc (s : Stm) (a : List UInt8) (c : UInt8) : adds s (a ++ [c]) = addB (adds s a) c := by simp [adds]
theorem set_mid (l : List UInt8) (v : List UInt8) (q : Nat) (c : UInt8) (h : q + v.length < l.length) :
    (l.take q ++ (v ++ l.drop (q + v.length))).set (q + v.length) c = l.take q ++ ((v ++ [c]) ++ l.drop (q + (v ++ [c]).length)) := by
  have e : (l.take q).length = q := by simp; omega
  rw [List.set_append_right _ _ (by omega), e, Nat.add_sub_cancel_left, List.set_append_right _ _ (by omega), Nat.sub_self, List.append_assoc]
  congr 2
  rw [List.drop_eq_getElem_cons h]
  simp [Nat.add_assoc]
theorem ofq_add (a b : Nat) : ofq ((a + b : Nat) : Int) = ofq (a : Int) + ofq (b : Int) := by
  apply UInt64.toNat.inj
  rw [UInt64.toNat_add]
  have h1 := ofq_toNat ((a + b : Nat) : Int)
  have h2 := ofq_toNat (a : Int)
  have h3 := ofq_toNat (b : Int)
  omega
theorem adds_part (s : Stm) (q : Nat) (hq : s.n.toNat % 64 = q) (h64 : s.bl.length = 64) : ∀ (m : Nat) (u : List UInt8), u.length = m → q + m ≤ 64 →
    adds s u = ⟨if q + m = 64 then comp s.st (s.bl.take q ++ (u ++ s.bl.drop (q + m))) else s.st, s.bl.take q ++ (u ++ s.bl.drop (q + m)), s.n + ofq (m : Int)⟩ := by
  intro m
  induction m with
  | zero =>
    intro u hu hm
    have hq2 : q < 64 := by omega
    have : u = [] := List.eq_nil_of_length_eq_zero hu
    subst this
    have h0 : ofq ((0 : Nat) : Int) = 0 := by decide
    rw [h0, if_neg (by omega)]
    simp [adds]
  | succ m ih =>
    intro u hu hm
    obtain ⟨v, c, rfl⟩ : ∃ v c, u = v ++ [c] := by
      refine ⟨u.dropLast, u.getLast (by intro e; rw [e] at hu; simp at hu), ?_⟩
      exact (List.dropLast_concat_getLast _).symm
    have hv : v.length = m := by simpa using hu
    subst hv
    rw [adds_snoc, ih v rfl (by omega), if_neg (by omega)]
    have ha : (s.n + ofq (v.length : Int)).toNat % 64 = q + v.length := by rw [at_add, hq]; omega
    unfold addB
    simp only [ha]
    have hs := set_mid s.bl v q c (by omega)
    have hl : (v ++ [c]).length = v.length + 1 := by simp
    rw [hs, hl]
    congr 1
    · by_cases h : q + v.length = 63
      · rw [if_pos h, if_pos (by omega)]
      · rw [if_neg h, if_neg (by omega)]
    · rw [ofq_add, UInt64.add_assoc]
      rfl
theorem adds_chunk (s : Stm) (t : List UInt8) (q k : Nat) (hq : s.n.toNat % 64 = q) (h64 : s.bl.length = 64) (hk : k ≤ t.length) (hk2 : q + k ≤ 64) :
    adds s t = adds ⟨if q + k = 64 then comp s.st (s.bl.take q ++ (t.take k ++ s.bl.drop (q + k))) else s.st, s.bl.take q ++ (t.take k ++ s.bl.drop (q + k)), s.n + ofq (k : Int)⟩ (t.drop k) := by
  rw [← adds_part s q hq h64 k (t.take k) (by simp; omega) hk2, ← adds_app, List.take_append_drop]
theorem adds_len (s : Stm) (h8 : s.st.length = 8) (h64 : s.bl.length = 64) (t : List UInt8) : (adds s t).st.length = 8 ∧ (adds s t).bl.length = 64 := by
  induction t generalizing s with
  | nil => exact ⟨h8, h64⟩
  | cons c t ih =>
    refine ih (addB s c) ?_ ?_
    · unfold addB; dsimp only; split
      · exact comp_len _ _ h8
      · exact h8
    · simp [addB, h64]
end Sha
end Go.Fw
end

section
namespace Go.Fw
namespace Sha
theorem zeros_lt (n : Nat) : zerosFor n < 64 := by unfold zerosFor; omega
theorem zeros_at (n : Nat) : (n + (1 + zerosFor n)) % 64 = 56 := by unfold zerosFor; omega
theorem zeros_un (n j : Nat) (h : j ≤ zerosFor n) (h1 : (n + (1 + j)) % 64 = 56) : j = zerosFor n := by unfold zerosFor at *; omega
theorem be8_len (n : UInt64) : (be8 n).length = 8 := by simp [be8]
theorem be8_step (n : UInt64) (i : Nat) (h : i < 8) : (be8 n).take (i + 1) = (be8 n).take i ++ [UInt8.ofNat (n.toNat / 2 ^ (56 - 8 * i))] := by
  rw [List.take_add_one]
  simp [be8, h]
theorem byte_q (n : UInt64) (i : Int) (h : 0 ≤ i ∧ i < 8) : ofb ((UInt64.ofNat (n.toNat / 2 ^ (min (56 - 8 * i).toNat 64))).toNat : Int) = UInt8.ofNat (n.toNat / 2 ^ (56 - 8 * i.toNat)) := by
  have e : min (56 - 8 * i).toNat 64 = 56 - 8 * i.toNat := by omega
  rw [e]
  have h1 : n.toNat / 2 ^ (56 - 8 * i.toNat) < 18446744073709551616 := Nat.lt_of_le_of_lt (Nat.div_le_self _ _) (by have := n.toNat_lt; omega)
  have h2 : (UInt64.ofNat (n.toNat / 2 ^ (56 - 8 * i.toNat))).toNat = n.toNat / 2 ^ (56 - 8 * i.toNat) := by
    rw [UInt64.toNat_ofNat']
    exact Nat.mod_eq_of_lt h1
  rw [h2]
  apply UInt8.toNat.inj
  have h3 := ofb_toNat ((n.toNat / 2 ^ (56 - 8 * i.toNat) : Nat) : Int)
  rw [UInt8.toNat_ofNat']
  omega
def byteO (st : List UInt32) (i : Nat) : UInt8 := UInt8.ofNat ((st.getD (i / 4) 0).toNat / 2 ^ (24 - 8 * (i % 4)))
def outW (st : List UInt32) (i : Nat) : List UInt8 := (List.range 32).map fun j => if j < i then byteO st j else 0
theorem outW_len (st : List UInt32) (i : Nat) : (outW st i).length = 32 := by simp [outW]
theorem outW_32 (st : List UInt32) : outW st 32 = outB st := by
  unfold outW outB
  apply List.map_congr_left
  intro j hj
  rw [List.mem_range] at hj
  rw [if_pos hj]
  rfl
theorem outW_step (st : List UInt32) (i : Nat) (h : i < 32) : (outW st i).set i (byteO st i) = outW st (i + 1) := by
  apply List.ext_getElem
  · simp [outW]
  · intro j h1 h2
    simp [outW] at h1 h2
    rw [List.getElem_set]
    simp only [outW, List.getElem_map, List.getElem_range]
    by_cases hj : i = j
    · subst hj; simp
    · simp only [hj, if_false]
      by_cases h3 : j < i
      · rw [if_pos h3, if_pos (by omega)]
      · rw [if_neg h3, if_neg (by omega)]
theorem byte_w (st : List UInt32) (i : Int) (h : 0 ≤ i ∧ i < 32) : ofb ((UInt32.ofNat ((st.getD (i / 4).toNat 0).toNat / 2 ^ (min (24 - 8 * (i % 4)).toNat 32))).toNat : Int) = byteO st i.toNat := by
  have e : min (24 - 8 * (i % 4)).toNat 32 = 24 - 8 * (i.toNat % 4) := by omega
  have e2 : (i / 4).toNat = i.toNat / 4 := by omega
  rw [e, e2]
  unfold byteO
  generalize st.getD (i.toNat / 4) 0 = x
  have h1 : x.toNat / 2 ^ (24 - 8 * (i.toNat % 4)) < 4294967296 := Nat.lt_of_le_of_lt (Nat.div_le_self _ _) (by have := x.toNat_lt; omega)
  have h2 : (UInt32.ofNat (x.toNat / 2 ^ (24 - 8 * (i.toNat % 4)))).toNat = x.toNat / 2 ^ (24 - 8 * (i.toNat % 4)) := by
    rw [UInt32.toNat_ofNat']
    exact Nat.mod_eq_of_lt h1
  rw [h2]
  apply UInt8.toNat.inj
  have h3 := ofb_toNat ((x.toNat / 2 ^ (24 - 8 * (i.toNat % 4)) : Nat) : Int)
  rw [UInt8.toNat_ofNat']
  omega
theorem pad_len (n : UInt64) : (pad n).length < 100 := by
  have := zeros_lt n.toNat
  simp [pad, be8]
  omega
theorem outB_len (st : List UInt32) : (outB st).length = 32 := by simp [outB]
end Sha
end Go.Fw
namespace Go.Fw
namespace Sha
theorem adds_n (s : Stm) (t : List UInt8) : (adds s t).n = s.n + ofq (t.length : Int) := by
  induction t generalizing s with
  | nil => show s.n = s.n + ofq 0; rw [show ofq (0 : Int) = 0 by decide]; simp
  | cons c t ih =>
    show (adds (addB s c) t).n = _
    rw [ih]
    show s.n + 1 + ofq (t.length : Int) = s.n + ofq ((t.length + 1 : Nat) : Int)
    rw [ofq_add, UInt64.add_assoc, show ofq ((1 : Nat) : Int) = 1 by decide, UInt64.add_comm 1]
theorem adds_nlt (s : Stm) (t : List UInt8) (h : s.n.toNat + t.length < 18446744073709551616) : (adds s t).n.toNat = s.n.toNat + t.length := by
  rw [adds_n, UInt64.toNat_add]
  have := ofq_toNat (t.length : Int)
  omega
theorem begin_8 : begin_.st.length = 8 := rfl
theorem begin_64 : begin_.bl.length = 64 := rfl
theorem begin_n : begin_.n.toNat = 0 := rfl
theorem fin_len (s : Stm) : (fin s).length = 32 := outB_len _
theorem sum_len (m : List UInt8) : (sum m).length = 32 := fin_len _
/-- The key of the code, padded, each byte xored. -/
def padK (key : List UInt8) (c : UInt8) : List UInt8 := (key.take (min key.length 64) ++ (List.replicate 64 (0 : UInt8)).drop (min key.length 64)).map (· ^^^ c)
def padW (key : List UInt8) (c : UInt8) (i : Nat) : List UInt8 :=
  let b := key.take (min key.length 64) ++ (List.replicate 64 (0 : UInt8)).drop (min key.length 64)
  (b.take i).map (· ^^^ c) ++ b.drop i
def keyOf (key : List UInt8) : List UInt8 := if 64 < key.length then sum key else key
def mac (key text : List UInt8) : List UInt8 :=
  fin (adds (adds begin_ (padK (keyOf key) 92)) (fin (adds (adds begin_ (padK (keyOf key) 54)) text)))
end Sha
end Go.Fw
namespace Go.Fw
namespace Sha
end Sha
end Go.Fw
end

section
/- The wire's encodings in plain words. -/
namespace Go.Fw
namespace Wi
/-- How many bytes m takes, at most k. -/
def nbF (m : UInt64) : Nat → Nat
  | 0 => 0
  | k + 1 => if m.toNat / 2 ^ (8 * k) = 0 then nbF m k else k + 1
def nb (m : UInt64) : Nat := nbF m 8
theorem nbF_le (m : UInt64) : ∀ k, nbF m k ≤ k
  | 0 => Nat.le_refl _
  | k + 1 => by unfold nbF; split; exact Nat.le_succ_of_le (nbF_le m k); exact Nat.le_refl _
theorem nb_le (m : UInt64) : nb m ≤ 8 := nbF_le m 8
def mOf (n : Int) : UInt64 := if n < 0 then ~~~(ofq n) else ofq n
def flOf (n : Int) : UInt8 := if n < 0 then 255 else 0
def digit (m : UInt64) (fl : UInt8) (i : Nat) : UInt8 := UInt8.ofNat (m.toNat / 2 ^ (8 * i)) ^^^ fl
/-- The digits i - 1 .. 0 are to come: those before. -/
def digsFrom (m : UInt64) (fl : UInt8) (k i : Nat) : List UInt8 := ((List.range (k - i)).map fun j => digit m fl (k - 1 - j))
/-- An integer. -/
def int (n : Int) : List UInt8 := (UInt8.ofNat (128 + nb (mOf n)) ^^^ flOf n) :: digsFrom (mOf n) (flOf n) (nb (mOf n)) 0
theorem int_len (n : Int) : (int n).length = 1 + nb (mOf n) := by simp [int, digsFrom]; omega
theorem int_len9 (n : Int) : 1 ≤ (int n).length ∧ (int n).length ≤ 9 := by have := int_len n; have := nb_le (mOf n); omega
/-- A string. -/
def bytes (s : List UInt8) : List UInt8 := int s.length ++ s
theorem digs_len (m : UInt64) (fl : UInt8) (k i : Nat) : (digsFrom m fl k i).length = k - i := by simp [digsFrom]
end Wi
end Go.Fw
namespace Go.Fw
namespace Wi
theorem ofb_nat (n : Nat) : ofb (n : Int) = UInt8.ofNat n := by
  apply UInt8.toNat.inj
  have h3 := ofb_toNat (n : Int)
  rw [UInt8.toNat_ofNat']
  omega
end Wi
end Go.Fw
namespace Go.Fw
namespace Wi
theorem flat_len (ps : List (List UInt8)) (hp : ∀ p ∈ ps, p.length < 1048576) : (ps.flatMap bytes).length ≤ ps.length * 1048585 := by
  induction ps with
  | nil => simp
  | cons p ps ih =>
    have h1 := ih fun q hq => hp q (by simp [hq])
    have h2 := hp p (by simp)
    have h3 := int_len9 p.length
    simp only [List.flatMap_cons, List.length_append, List.length_cons, bytes]
    omega
end Wi
namespace Sha
def ofS (tag : Int) (ps : List (List UInt8)) : Stm := adds (adds begin_ [ofb tag]) (ps.flatMap Wi.bytes)
def ofD (tag : Int) (ps : List (List UInt8)) : List UInt8 := (fin (ofS tag ps)).take 16
theorem ofD_len (tag : Int) (ps : List (List UInt8)) : (ofD tag ps).length = 16 := by unfold ofD; rw [List.length_take, fin_len]; rfl
end Sha
end Go.Fw
namespace Go.Fw
namespace Sha
theorem getD_mem (ps : List (List UInt8)) (i : Nat) (h : i < ps.length) : ps.getD i [] ∈ ps := by
  rw [List.getD_eq_getElem?_getD, List.getElem?_eq_getElem h]
  exact List.getElem_mem h
end Sha
end Go.Fw
namespace Go.Fw
end Go.Fw
end

section
namespace Go.Fw
namespace Wi
/-- The document's magnitude. -/
def mag (n : Int) : Int := if n < 0 then -1 - n else n
end Wi
end Go.Fw
namespace Go.Fw
namespace Wi
/-- The document's digits, the least first. -/
def digLE (m : Nat) (j : Nat) : List UInt8 := (List.range j).map fun i => UInt8.ofNat (m / 2 ^ (8 * i))
end Wi
end Go.Fw
namespace Go.Fw
end Go.Fw
namespace Go.Fw
def Sha.inp (tag : Int) (ps : List (List UInt8)) : List UInt8 := ofb tag :: ps.flatMap Wi.bytes
end Go.Fw
end

section
namespace Go.Fw
namespace Sha
/-! ### the document's own way -/
theorem rotr_q (x : UInt32) (n : Int) (h : 0 < n ∧ n < 32) : UInt32.ofNat (x.toNat / 2 ^ (min n.toNat 32)) ||| ofw ((x.toNat : Int) * 2 ^ (min (32 - n).toNat 32)) = rotr x (UInt32.ofNat n.toNat) := by
  obtain ⟨k, rfl⟩ := Int.eq_ofNat_of_zero_le (show 0 ≤ n by omega)
  rw [Int.toNat_natCast, show min k 32 = k by omega, show min (32 - (k : Int)).toNat 32 = 32 - k by omega, shlw _ _ (by omega), shrw _ _ (by omega)]
  unfold rotr
  have e : UInt32.ofNat (32 - k) = 32 - UInt32.ofNat k := by
    apply UInt32.toNat.inj
    rw [UInt32.toNat_ofNat', UInt32.toNat_sub, UInt32.toNat_ofNat']
    simp
    omega
  rw [e]
theorem schW_set16 (b : List UInt8) (t : Nat) (h : t < 16) : (schW b t).set t (word b t) = schW b (t + 1) := by
  rw [schW_A b t (by omega), ← acc4_word, ← schA_end b t h]
  unfold schA
  rw [List.set_append_right _ _ (by rw [sch_len]; exact Nat.le_refl _), sch_len, Nat.sub_self, List.set_cons_zero]
theorem word_step (bb : List UInt8) (t : Int) (h0 : 0 ≤ t) (h1 : t < 16) :
    (schW bb t.toNat).set t.toNat (ofw (((ofw (((bb.getD (4 * t).toNat 0).toNat : Int))).toNat : Int) * 2 ^ min (Int.toNat 24) 32) ||| ofw (((ofw (((bb.getD (4 * t + 1).toNat 0).toNat : Int))).toNat : Int) * 2 ^ min (Int.toNat 16) 32) ||| ofw (((ofw (((bb.getD (4 * t + 2).toNat 0).toNat : Int))).toNat : Int) * 2 ^ min (Int.toNat 8) 32) ||| ofw (((bb.getD (4 * t + 3).toNat 0).toNat : Int))) = schW bb (t + 1).toNat := by
  obtain ⟨t, rfl⟩ := Int.eq_ofNat_of_zero_le h0
  rw [show ((t : Int) + 1).toNat = t + 1 by omega, ← schW_set16 bb t (by omega)]
  simp only [Int.toNat_natCast]
  rw [show (4 * (t : Int)).toNat = 4 * t by omega, show (4 * (t : Int) + 1).toNat = 4 * t + 1 by omega, show (4 * (t : Int) + 2).toNat = 4 * t + 2 by omega, show (4 * (t : Int) + 3).toNat = 4 * t + 3 by omega,
    show min (Int.toNat 24) 32 = 24 from rfl, show min (Int.toNat 16) 32 = 16 from rfl, show min (Int.toNat 8) 32 = 8 from rfl, cvbw, cvbw, cvbw, cvbw, shlw _ 24 (by omega), shlw _ 16 (by omega), shlw _ 8 (by omega)]
  rfl
theorem ref_step (bb : List UInt8) (t : Int) (h1 : 16 ≤ t) (h2 : t < 64) :
    ((schW bb t.toNat).set t.toNat ((schW bb t.toNat).getD (t - 16).toNat 0 + (rotr ((schW bb t.toNat).getD (t - 15).toNat 0) (UInt32.ofNat (Int.toNat 7)) ^^^ rotr ((schW bb t.toNat).getD (t - 15).toNat 0) (UInt32.ofNat (Int.toNat 18)) ^^^ UInt32.ofNat (((schW bb t.toNat).getD (t - 15).toNat 0).toNat / 2 ^ min (Int.toNat 3) 32)) + (schW bb t.toNat).getD (t - 7).toNat 0 +
      (rotr ((schW bb t.toNat).getD (t - 2).toNat 0) (UInt32.ofNat (Int.toNat 17)) ^^^ rotr ((schW bb t.toNat).getD (t - 2).toNat 0) (UInt32.ofNat (Int.toNat 19)) ^^^ UInt32.ofNat (((schW bb t.toNat).getD (t - 2).toNat 0).toNat / 2 ^ min (Int.toNat 10) 32)))) = schW bb (t + 1).toNat := by
  rw [← sch_step bb t h1 h2]
  have e := rotl_rotr
  rw [show (-7 : Int) = -((7 : Nat) : Int) from rfl, show (-18 : Int) = -((18 : Nat) : Int) from rfl, show (-17 : Int) = -((17 : Nat) : Int) from rfl, show (-19 : Int) = -((19 : Nat) : Int) from rfl, e _ 7 (by omega) (by omega), e _ 18 (by omega) (by omega), e _ 17 (by omega) (by omega), e _ 19 (by omega) (by omega)]
  rfl
end Sha
end Go.Fw
end

section
namespace Go.Fw
namespace Sha
def blkAt (m : List UInt8) (i : Nat) : List UInt8 := (m.take (64 * i + 64)).drop (64 * i)
def refS (m : List UInt8) : Nat → List UInt32
  | 0 => init
  | i + 1 => comp (refS m i) (blkAt m i)
theorem refS_len (m : List UInt8) : ∀ i, (refS m i).length = 8
  | 0 => rfl
  | i + 1 => comp_len _ _ (refS_len m i)
theorem blkAt_len (m : List UInt8) (i : Nat) (h : 64 * i + 64 ≤ m.length) : (blkAt m i).length = 64 := by simp [blkAt]; omega
theorem refS_adds (m : List UInt8) : ∀ i, 64 * i ≤ m.length → (adds begin_ (m.take (64 * i))).st = refS m i ∧ (adds begin_ (m.take (64 * i))).n.toNat % 64 = 0
  | 0, _ => by simp [adds, refS, begin_]
  | i + 1, h => by
    have ih := refS_adds m i (by omega)
    have hl := adds_len begin_ begin_8 begin_64 (m.take (64 * i))
    have e : m.take (64 * (i + 1)) = m.take (64 * i) ++ blkAt m i := by
      unfold blkAt
      rw [List.drop_take, show 64 * i + 64 - 64 * i = 64 by omega, show 64 * (i + 1) = 64 * i + 64 by omega, List.take_add]
    have hb := blkAt_len m i (by omega)
    rw [e, adds_app, adds_part _ 0 ih.2 hl.2 64 (blkAt m i) hb (by omega)]
    refine ⟨?_, ?_⟩
    · dsimp only
      rw [if_pos (by omega), ih.1, List.drop_of_length_le (by omega)]
      simp [refS]
    · dsimp only
      rw [at_add, ih.2]
theorem pad_at (n : Nat) (h : n < 18446744073709551616) : (pad (ofq (n : Int))).length = 1 + zerosFor n + 8 := by
  have hq : (ofq (n : Int)).toNat = n := by have := ofq_toNat (n : Int); omega
  simp only [pad, hq, List.length_cons, List.length_append, List.length_replicate, be8_len]
  omega
theorem sum_ref (xs : List UInt8) (h : xs.length < 18446744073709551616) (k : Nat) (hk : (xs ++ pad (ofq (xs.length : Int))).length = 64 * k) : sum xs = outB (refS (xs ++ pad (ofq (xs.length : Int))) k) := by
  have h1 := refS_adds (xs ++ pad (ofq (xs.length : Int))) k (by omega)
  rw [List.take_of_length_le (by omega)] at h1
  rw [← h1.1]
  unfold sum fin
  rw [adds_app, adds_n begin_ xs]
  have : begin_.n + ofq (xs.length : Int) = ofq (xs.length : Int) := by show (0 : UInt64) + _ = _; simp
  rw [this]
theorem mod_pad (xs : List UInt8) (h : xs.length < 18446744073709551616) : (xs ++ pad (ofq (xs.length : Int))).length % 64 = 0 := by
  have := zeros_at xs.length
  rw [List.length_append, pad_at _ h]
  omega
theorem xor_ff (x : UInt32) : x ^^^ 4294967295 = ~~~x := by
  apply UInt32.toBitVec_inj.1
  show x.toBitVec ^^^ 4294967295#32 = ~~~x.toBitVec
  rw [show (4294967295#32 : BitVec 32) = BitVec.allOnes 32 by decide, BitVec.xor_allOnes]
end Sha
end Go.Fw
end

section
namespace Go.Fw
namespace Sha
end Sha
end Go.Fw
namespace Go.Fw
namespace Sha
end Sha
end Go.Fw
namespace Go.Fw
namespace Sha
/-- The first i of a list, nought behind, n in all. -/
def cpW (xs : List UInt8) (n i : Nat) : List UInt8 := xs.take i ++ List.replicate (n - i) 0
end Sha
end Go.Fw
end

section
namespace Go.Fw
namespace Wi
/-- Digits, the greatest first, as a number. -/
def valBE (l : List UInt8) : Nat := l.foldl (fun a d => a * 256 + d.toNat) 0
theorem foldBE (l : List UInt8) : ∀ a, l.foldl (fun a d => a * 256 + d.toNat) a = a * 256 ^ l.length + valBE l := by
  induction l with
  | nil => intro a; simp [valBE]
  | cons d l ih =>
    intro a
    unfold valBE
    simp only [List.foldl_cons, List.length_cons]
    rw [ih, ih (0 * 256 + d.toNat), Nat.pow_succ, Nat.add_mul, Nat.mul_comm (256 ^ l.length) 256, ← Nat.mul_assoc, Nat.zero_mul, Nat.zero_add]
    omega
theorem valBE_cons (d : UInt8) (l : List UInt8) : valBE (d :: l) = d.toNat * 256 ^ l.length + valBE l := by
  have := foldBE l (0 * 256 + d.toNat)
  unfold valBE
  rw [List.foldl_cons, this]
  simp [valBE]
theorem digs_cons (m : UInt64) (fl : UInt8) (k : Nat) : digsFrom m fl (k + 1) 0 = digit m fl k :: digsFrom m fl k 0 := by
  unfold digsFrom
  rw [Nat.sub_zero, Nat.sub_zero, List.range_succ_eq_map, List.map_cons, List.map_map]
  congr 1
  apply List.map_congr_left
  intro j hj
  simp only [Function.comp]
  congr 1
  omega
theorem pow256 (k : Nat) : 2 ^ (8 * k) = 256 ^ k := by rw [Nat.pow_mul]
theorem val_digs (m : UInt64) : ∀ k, valBE (digsFrom m 0 k 0) = m.toNat % 256 ^ k
  | 0 => by simp [digsFrom, valBE, Nat.mod_one]
  | k + 1 => by
    rw [digs_cons, valBE_cons, val_digs m k, digs_len, Nat.sub_zero]
    have hd : (digit m 0 k).toNat = m.toNat / 256 ^ k % 256 := by
      unfold digit
      rw [UInt8.xor_zero, UInt8.toNat_ofNat', pow256]
    rw [hd, Nat.pow_succ, Nat.mod_mul, Nat.mul_comm]
    omega
end Wi
namespace Sha
end Sha
end Go.Fw
end

section
namespace Go.Fw
namespace Wi
/-! ### decoding an integer -/
def flipOf (h : UInt8) : UInt8 := if h < 128 then 255 else 0
def getInt (b : List UInt8) : Int × Int × Int :=
  match b with
  | [] => (0, 0, 3)
  | h :: t =>
    if 8 < (h ^^^ flipOf h).toNat - 128 then (0, 0, 2)
    else if t.length < (h ^^^ flipOf h).toNat - 128 then (0, 0, 3)
    else if 0 < (h ^^^ flipOf h).toNat - 128 ∧ t.getD 0 0 ^^^ flipOf h = 0 then (0, 0, 2)
    else if 9223372036854775808 ≤ valBE ((t.take ((h ^^^ flipOf h).toNat - 128)).map (· ^^^ flipOf h)) then (0, 0, 2)
    else (if flipOf h = 0 then (valBE ((t.take ((h ^^^ flipOf h).toNat - 128)).map (· ^^^ flipOf h)) : Int) else -1 - (valBE ((t.take ((h ^^^ flipOf h).toNat - 128)).map (· ^^^ flipOf h)) : Int), ((h ^^^ flipOf h).toNat - 128 : Nat) + 1, 0)

theorem valBE_lt : ∀ (l : List UInt8), valBE l < 256 ^ l.length
  | [] => by simp [valBE]
  | d :: l => by
    rw [valBE_cons, List.length_cons, Nat.pow_succ]
    have h1 := valBE_lt l
    have h2 := d.toNat_lt
    have h3 : d.toNat * 256 ^ l.length ≤ 255 * 256 ^ l.length := Nat.mul_le_mul_right _ (by omega)
    omega
end Wi
end Go.Fw
end

section
namespace Go.Fw
namespace Wi
def ints (l : List Int) : List UInt8 := int l.length ++ l.flatMap int
def strs (l : List (List UInt8)) : List UInt8 := int l.length ++ l.flatMap bytes
def dgs (l : List (List UInt8)) : List UInt8 := int l.length ++ l.flatten

/-- The length of a list, at the beginning of b. -/
def cnt (size : Nat) (b : List UInt8) : Int × Int × Int :=
  if (getInt b).2.2 ≠ 0 then (0, 0, (getInt b).2.2)
  else if (getInt b).1 < 0 then (0, 0, 2)
  else if (b.length : Int) - (getInt b).2.1 < (getInt b).1 * size then (0, 0, 3)
  else getInt b
def getBytes (b : List UInt8) : List UInt8 × Int × Int :=
  if (cnt 1 b).2.2 ≠ 0 then ([], 0, (cnt 1 b).2.2)
  else ((b.drop (cnt 1 b).2.1.toNat).take (cnt 1 b).1.toNat, (cnt 1 b).2.1 + (cnt 1 b).1, 0)
def run {α : Type} (dec : List UInt8 → α × Int × Int) (b : List UInt8) (at0 : Int) : Nat → List α × Int × Int
  | 0 => ([], at0, 0)
  | k + 1 =>
    if (run dec b at0 k).2.2 ≠ 0 then run dec b at0 k
    else if (dec (b.drop (run dec b at0 k).2.1.toNat)).2.2 ≠ 0 then ([], 0, (dec (b.drop (run dec b at0 k).2.1.toNat)).2.2)
    else ((run dec b at0 k).1 ++ [(dec (b.drop (run dec b at0 k).2.1.toNat)).1], (run dec b at0 k).2.1 + (dec (b.drop (run dec b at0 k).2.1.toNat)).2.1, 0)
def getList {α : Type} (dec : List UInt8 → α × Int × Int) (b : List UInt8) : List α × Int × Int :=
  if (cnt 1 b).2.2 ≠ 0 then ([], 0, (cnt 1 b).2.2) else run dec b (cnt 1 b).2.1 (cnt 1 b).1.toNat
def getInts (b : List UInt8) : List Int × Int × Int := getList getInt b
def getStrs (b : List UInt8) : List (List UInt8) × Int × Int := getList getBytes b
def getDigs (b : List UInt8) : List (List UInt8) × Int × Int :=
  if (cnt 16 b).2.2 ≠ 0 then ([], 0, (cnt 16 b).2.2)
  else ((List.range (cnt 16 b).1.toNat).map (fun k => (b.drop ((cnt 16 b).2.1.toNat + 16 * k)).take 16), (cnt 16 b).2.1 + 16 * (cnt 16 b).1, 0)

/-! ### a codec -/
structure Codec {α : Type} (enc : α → List UInt8) (dec : List UInt8 → α × Int × Int) (p : α → Prop) : Prop where
  rt : ∀ x t, p x → dec (enc x ++ t) = (x, ((enc x).length : Int), 0)
  canon : ∀ b x k, dec b = (x, k, 0) → p x ∧ k = ((enc x).length : Int) ∧ ∃ t, b = enc x ++ t
  short : ∀ x i, p x → i < (enc x).length → (dec ((enc x).take i)).2.2 = 3
  pos : ∀ x, 1 ≤ (enc x).length
section
variable {α : Type} {enc : α → List UInt8} {dec : List UInt8 → α × Int × Int} {p : α → Prop}
/-! ### lists -/
def encList (enc : α → List UInt8) (xs : List α) : List UInt8 := int (xs.length : Int) ++ xs.flatMap enc
end
end Wi
end Go.Fw
end

section
namespace Go.Fw
namespace Ls
/-- An encoding, up to element i. -/
def encT {α : Type} (enc : α → List UInt8) (xs : List α) (i : Nat) : List UInt8 := Wi.int (xs.length : Int) ++ (xs.take i).flatMap enc
end Ls
end Go.Fw
end

section
namespace Go.Fw
namespace Wi
section
variable {h : UInt8} {t : List UInt8} {K : Nat} {fl : UInt8}
end
/-- The digits read so far. -/
def vj (t : List UInt8) (fl : UInt8) (K j : Nat) : Nat := valBE (((t.take K).take j).map (· ^^^ fl))
/-! ### the reference's way -/
end Wi
end Go.Fw
namespace Go.Fw
namespace Wi
/-! ### the program's count -/
def wcnt (size : Nat) (b : List UInt8) : Int × Int × Int :=
  if (getInt b).2.2 ≠ 0 then getInt b
  else if (getInt b).1 < 0 then ((getInt b).1, (getInt b).2.1, 2)
  else if ((b.length : Int) - (getInt b).2.1) / size < (getInt b).1 then ((getInt b).1, (getInt b).2.1, 3)
  else getInt b
end Wi
end Go.Fw
end
