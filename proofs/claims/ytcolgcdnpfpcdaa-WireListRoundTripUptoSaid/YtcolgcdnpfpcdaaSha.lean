/- SHA-256 in plain words: what the walks compute, and that it is one thing. -/
import Derived.Test.YtcolgcdnpfpcdaaFw3
set_option linter.all false
namespace Go.Fw
namespace Sha

def kc : List UInt32 := [1116352408, 1899447441, 3049323471, 3921009573, 961987163, 1508970993, 2453635748, 2870763221, 3624381080, 310598401, 607225278, 1426881987, 1925078388, 2162078206, 2614888103, 3248222580, 3835390401, 4022224774, 264347078, 604807628, 770255983, 1249150122, 1555081692, 1996064986, 2554220882, 2821834349, 2952996808, 3210313671, 3336571891, 3584528711, 113926993, 338241895, 666307205, 773529912, 1294757372, 1396182291, 1695183700, 1986661051, 2177026350, 2456956037, 2730485921, 2820302411, 3259730800, 3345764771, 3516065817, 3600352804, 4094571909, 275423344, 430227734, 506948616, 659060556, 883997877, 958139571, 1322822218, 1537002063, 1747873779, 1955562222, 2024104815, 2227730452, 2361852424, 2428436474, 2756734187, 3204031479, 3329325298]

def rotr (x : UInt32) (n : UInt32) : UInt32 := (x >>> n) ||| (x <<< (32 - n))
def word (b : List UInt8) (t : Nat) : UInt32 :=
  ((b.getD (4 * t) 0).toUInt32 <<< 24) ||| ((b.getD (4 * t + 1) 0).toUInt32 <<< 16) ||| ((b.getD (4 * t + 2) 0).toUInt32 <<< 8) ||| (b.getD (4 * t + 3) 0).toUInt32
def s0 (x : UInt32) : UInt32 := rotr x 7 ^^^ rotr x 18 ^^^ (x >>> 3)
def s1 (x : UInt32) : UInt32 := rotr x 17 ^^^ rotr x 19 ^^^ (x >>> 10)
/-- The first t words of a block's schedule. -/
def sch (b : List UInt8) : Nat → List UInt32
  | 0 => []
  | t + 1 => let w := sch b t; w ++ [if t < 16 then word b t else w.getD (t - 16) 0 + s0 (w.getD (t - 15) 0) + w.getD (t - 7) 0 + s1 (w.getD (t - 2) 0)]

abbrev S8 := UInt32 × UInt32 × UInt32 × UInt32 × UInt32 × UInt32 × UInt32 × UInt32
def big1 (e : UInt32) : UInt32 := rotr e 6 ^^^ rotr e 11 ^^^ rotr e 25
def big0 (a : UInt32) : UInt32 := rotr a 2 ^^^ rotr a 13 ^^^ rotr a 22
def rnd (s : S8) (k w : UInt32) : S8 :=
  match s with
  | (a, b, c, d, e, f, g, h) =>
    let x := h + big1 e + ((e &&& f) ^^^ (~~~e &&& g)) + k + w
    let y := big0 a + ((a &&& b) ^^^ (a &&& c) ^^^ (b &&& c))
    (x + y, a, b, c, d + x, e, f, g)
def rounds (ws : List UInt32) (s : S8) : Nat → S8
  | 0 => s
  | t + 1 => rnd (rounds ws s t) (kc.getD t 0) (ws.getD t 0)
def l8 (s : S8) : List UInt32 := match s with | (a, b, c, d, e, f, g, h) => [a, b, c, d, e, f, g, h]
def s8 (l : List UInt32) : S8 := (l.getD 0 0, l.getD 1 0, l.getD 2 0, l.getD 3 0, l.getD 4 0, l.getD 5 0, l.getD 6 0, l.getD 7 0)
/-- A block into a hash value. -/
def comp (s : List UInt32) (b : List UInt8) : List UInt32 := List.zipWith (· + ·) s (l8 (rounds (sch b 64) (s8 s) 64))

def init : List UInt32 := [0x6a09e667, 0xbb67ae85, 0x3c6ef372, 0xa54ff53a, 0x510e527f, 0x9b05688c, 0x1f83d9ab, 0x5be0cd19]

/-- The stream: the hash value, the block, the count. -/
structure Stm where
  st : List UInt32
  bl : List UInt8
  n : UInt64
def addB (s : Stm) (c : UInt8) : Stm :=
  let bl := s.bl.set (s.n.toNat % 64) c
  { st := if s.n.toNat % 64 = 63 then comp s.st bl else s.st, bl := bl, n := s.n + 1 }
def adds (s : Stm) (t : List UInt8) : Stm := t.foldl addB s
def begin_ : Stm := ⟨init, List.replicate 64 0, 0⟩
def be8 (n : UInt64) : List UInt8 := (List.range 8).map fun i => UInt8.ofNat (n.toNat / 2 ^ (56 - 8 * i))
def zerosFor (n : Nat) : Nat := (119 - n % 64) % 64
def pad (n : UInt64) : List UInt8 := 128 :: (List.replicate (zerosFor n.toNat) 0 ++ be8 (8 * n))
def outB (st : List UInt32) : List UInt8 := (List.range 32).map fun i => UInt8.ofNat ((st.getD (i / 4) 0).toNat / 2 ^ (24 - 8 * (i % 4)))
def fin (s : Stm) : List UInt8 := outB (adds s (pad s.n)).st
/-- The hash. -/
def sum (m : List UInt8) : List UInt8 := fin (adds begin_ m)

theorem sch_len (b : List UInt8) : ∀ t, (sch b t).length = t
  | 0 => rfl
  | t + 1 => by simp [sch, sch_len b t]
theorem comp_len (s : List UInt32) (b : List UInt8) (h : s.length = 8) : (comp s b).length = 8 := by
  simp [comp, h, l8]


/-! ### what the walks meet -/
def rotl (x : UInt32) (k : Int) : UInt32 := ofw ((x.toNat : Int) * 2 ^ (min (((ofq k &&& 31).toNat : Int)).toNat 32)) ||| UInt32.ofNat (x.toNat / 2 ^ (min (((32 : UInt64) - (ofq k &&& 31)).toNat : Int).toNat 32))
theorem shlw (x : UInt32) (k : Nat) (hk : k < 32) : ofw ((x.toNat : Int) * 2 ^ k) = x <<< UInt32.ofNat k := by
  apply UInt32.toNat_inj.1
  have h1 := ofw_toNat ((x.toNat : Int) * 2 ^ k)
  have h2 : (UInt32.ofNat k).toNat = k := by rw [UInt32.toNat_ofNat']; exact Nat.mod_eq_of_lt (by omega)
  rw [UInt32.toNat_shiftLeft, h2, Nat.mod_eq_of_lt hk, Nat.shiftLeft_eq]
  have h3 : ((x.toNat : Int) * 2 ^ k) = ((x.toNat * 2 ^ k : Nat) : Int) := by simp
  rw [h3] at h1 ⊢
  omega
theorem shrw (x : UInt32) (k : Nat) (hk : k < 32) : UInt32.ofNat (x.toNat / 2 ^ k) = x >>> UInt32.ofNat k := by
  apply UInt32.toNat_inj.1
  have h2 : (UInt32.ofNat k).toNat = k := by rw [UInt32.toNat_ofNat']; exact Nat.mod_eq_of_lt (by omega)
  rw [UInt32.toNat_shiftRight, h2, Nat.mod_eq_of_lt hk, Nat.shiftRight_eq_div_pow, UInt32.toNat_ofNat']
  have := Nat.div_le_self x.toNat (2 ^ k)
  have := x.toNat_lt
  exact Nat.mod_eq_of_lt (by omega)
theorem cvbw (c : UInt8) : ofw (c.toNat : Int) = c.toUInt32 := by
  apply UInt32.toNat_inj.1
  have h1 := ofw_toNat (c.toNat : Int)
  have := c.toNat_lt
  rw [UInt8.toNat_toUInt32]
  omega
theorem rotl_rotr (x : UInt32) (k : Nat) (h1 : 0 < k) (h2 : k < 32) : rotl x (-(k : Int)) = rotr x (UInt32.ofNat k) := by
  have e1 : ((ofq (-(k : Int)) &&& 31).toNat) = 32 - k := by
    have h3 := ofq_toNat (-(k : Int))
    rw [UInt64.toNat_and]
    have h4 : (ofq (-(k : Int))).toNat = 18446744073709551616 - k := by omega
    rw [h4, show (31 : UInt64).toNat = 2 ^ 5 - 1 from rfl, Nat.and_two_pow_sub_one_eq_mod]
    omega
  have e2 : (((32 : UInt64) - (ofq (-(k : Int)) &&& 31)).toNat) = k := by
    rw [UInt64.toNat_sub, e1, show (32 : UInt64).toNat = 32 from rfl]
    omega
  unfold rotl rotr
  rw [e1, e2, Int.toNat_natCast, Int.toNat_natCast, Nat.min_eq_left (by omega), Nat.min_eq_left (by omega), shlw x _ (by omega), shrw x k h2, UInt32.or_comm]
  congr 1
  congr 1
  apply UInt32.toNat_inj.1
  rw [UInt32.toNat_sub, UInt32.toNat_ofNat', UInt32.toNat_ofNat', show (32 : UInt32).toNat = 32 from rfl]
  omega

/-- The bytes of a word, one by one. -/
def acc4 (b : List UInt8) (t : Nat) : Nat → UInt32
  | 0 => 0
  | j + 1 => (acc4 b t j <<< 8) ||| (b.getD (4 * t + j) 0).toUInt32
theorem acc4_word (b : List UInt8) (t : Nat) : acc4 b t 4 = word b t := by
  simp only [acc4, word, Nat.add_zero]
  apply UInt32.toBitVec_inj.1
  have e8 : (8:UInt32).toBitVec % 32#32 = 8#32 := by decide
  have e24 : (24:UInt32).toBitVec % 32#32 = 24#32 := by decide
  have e16 : (16:UInt32).toBitVec % 32#32 = 16#32 := by decide
  have e0 : (0:UInt32).toBitVec = 0#32 := rfl
  simp only [UInt32.toBitVec_or, UInt32.toBitVec_shiftLeft, e8, e24, e16, e0]
  simp [BitVec.shiftLeft_or_distrib, ← BitVec.shiftLeft_add]

/-! ### the schedule, word by word -/
def schW (b : List UInt8) (t : Nat) : List UInt32 := sch b t ++ List.replicate (64 - t) 0
def schA (b : List UInt8) (t j : Nat) : List UInt32 := sch b t ++ (acc4 b t j :: List.replicate (63 - t) 0)
theorem schW_len (b : List UInt8) (t : Nat) (h : t ≤ 64) : (schW b t).length = 64 := by simp [schW, sch_len]; omega
theorem schA_len (b : List UInt8) (t j : Nat) (h : t < 64) : (schA b t j).length = 64 := by simp [schA, sch_len]; omega
theorem schW_0 (b : List UInt8) : schW b 0 = List.replicate 64 0 := by simp [schW, sch]
theorem schW_A (b : List UInt8) (t : Nat) (h : t < 64) : schW b t = schA b t 0 := by
  unfold schW schA acc4
  rw [show 64 - t = (63 - t) + 1 by omega, List.replicate_succ]
theorem schA_at (b : List UInt8) (t j : Nat) : (schA b t j).getD t 0 = acc4 b t j := by
  simp [schA, sch_len]
theorem schA_set (b : List UInt8) (t j : Nat) (x : UInt32) (hx : x = acc4 b t (j + 1)) : (schA b t j).set t x = schA b t (j + 1) := by
  subst hx
  unfold schA
  rw [List.set_append_right _ _ (by rw [sch_len]; exact Nat.le_refl _), sch_len, Nat.sub_self, List.set_cons_zero]
theorem schA_end (b : List UInt8) (t : Nat) (h : t < 16) : schA b t 4 = schW b (t + 1) := by
  unfold schA schW
  rw [acc4_word, sch]
  simp only [if_pos h, List.append_assoc, List.cons_append, List.nil_append]
  rw [show 64 - (t + 1) = 63 - t by omega]
theorem schW_at (b : List UInt8) (t k : Nat) (h : k < t) : (schW b t).getD k 0 = (sch b t).getD k 0 := by
  unfold schW
  simp only [List.getD_eq_getElem?_getD]
  rw [List.getElem?_append_left (by rw [sch_len]; exact h)]
theorem schW_set (b : List UInt8) (t : Nat) (h1 : 16 ≤ t) (h2 : t < 64) (x : UInt32)
    (hx : x = (sch b t).getD (t - 16) 0 + s0 ((sch b t).getD (t - 15) 0) + (sch b t).getD (t - 7) 0 + s1 ((sch b t).getD (t - 2) 0)) : (schW b t).set t x = schW b (t + 1) := by
  subst hx
  rw [schW_A b t h2]
  unfold schA schW
  rw [List.set_append_right _ _ (by rw [sch_len]; exact Nat.le_refl _), sch_len, Nat.sub_self, List.set_cons_zero, sch]
  simp only [if_neg (show ¬ t < 16 by omega), List.append_assoc, List.cons_append, List.nil_append]
  rw [show 64 - (t + 1) = 63 - t by omega]
theorem schW_64 (b : List UInt8) : schW b 64 = sch b 64 := by simp [schW]

theorem acc_step (bb : List UInt8) (t j : Int) (h0 : 0 ≤ t) (h1 : t < 16) (h2 : 0 ≤ j) (h3 : j < 4) (hl : bb.length = 64) :
    (schA bb t.toNat j.toNat).set t.toNat (ofw (((schA bb t.toNat j.toNat).getD t.toNat 0).toNat * 2 ^ min (Int.toNat 8) 32) ||| ofw (((List.drop (4 * t).toNat (List.take (4 * t + 4).toNat bb)).getD j.toNat 0).toNat : Int)) = schA bb t.toNat (j + 1).toNat := by
  obtain ⟨t, rfl⟩ := Int.eq_ofNat_of_zero_le h0
  obtain ⟨j, rfl⟩ := Int.eq_ofNat_of_zero_le h2
  simp only [Int.toNat_natCast]
  rw [show ((j : Int) + 1).toNat = j + 1 by omega, show (4 * (t : Int)).toNat = 4 * t by omega, show (4 * (t : Int) + 4).toNat = 4 * t + 4 by omega, show min (Int.toNat 8) 32 = 8 from rfl]
  refine schA_set bb t j _ ?_
  rw [schA_at, shlw _ 8 (by omega), cvbw, acc4]
  congr 2
  simp only [List.getD_eq_getElem?_getD]
  rw [List.getElem?_drop, List.getElem?_take, if_pos (by omega)]
theorem sch_step (bb : List UInt8) (t : Int) (h1 : 16 ≤ t) (h2 : t < 64) :
    ((schW bb t.toNat).set t.toNat ((schW bb t.toNat).getD (t - 16).toNat 0 + (rotl ((schW bb t.toNat).getD (t - 15).toNat 0) (-7) ^^^ rotl ((schW bb t.toNat).getD (t - 15).toNat 0) (-18) ^^^ UInt32.ofNat (((schW bb t.toNat).getD (t - 15).toNat 0).toNat / 2 ^ min (Int.toNat 3) 32)) + (schW bb t.toNat).getD (t - 7).toNat 0 +
      (rotl ((schW bb t.toNat).getD (t - 2).toNat 0) (-17) ^^^ rotl ((schW bb t.toNat).getD (t - 2).toNat 0) (-19) ^^^ UInt32.ofNat (((schW bb t.toNat).getD (t - 2).toNat 0).toNat / 2 ^ min (Int.toNat 10) 32)))) = schW bb (t + 1).toNat := by
  obtain ⟨t, rfl⟩ := Int.eq_ofNat_of_zero_le (show 0 ≤ t by omega)
  simp only [Int.toNat_natCast]
  rw [show ((t : Int) + 1).toNat = t + 1 by omega, show ((t : Int) - 16).toNat = t - 16 by omega, show ((t : Int) - 15).toNat = t - 15 by omega, show ((t : Int) - 7).toNat = t - 7 by omega, show ((t : Int) - 2).toNat = t - 2 by omega, show min (Int.toNat 3) 32 = 3 from rfl, show min (Int.toNat 10) 32 = 10 from rfl]
  refine schW_set bb t (by omega) (by omega) _ ?_
  rw [schW_at bb t _ (by omega), schW_at bb t _ (by omega), schW_at bb t _ (by omega), schW_at bb t _ (by omega), shrw _ 3 (by omega), shrw _ 10 (by omega)]
  have e := rotl_rotr
  have e7 := fun x => e x 7 (by omega) (by omega)
  have e18 := fun x => e x 18 (by omega) (by omega)
  have e17 := fun x => e x 17 (by omega) (by omega)
  have e19 := fun x => e x 19 (by omega) (by omega)
  unfold s0 s1
  rw [show (-7 : Int) = -((7 : Nat) : Int) from rfl, show (-18 : Int) = -((18 : Nat) : Int) from rfl, show (-17 : Int) = -((17 : Nat) : Int) from rfl, show (-19 : Int) = -((19 : Nat) : Int) from rfl, e7, e18, e17, e19]
  rfl

/-- The sums, after i steps of four. -/
def upd (ss fin : List UInt32) (i : Nat) : List UInt32 := (List.range 8).map fun j => if j % 4 < i then ss.getD j 0 + fin.getD j 0 else ss.getD j 0
theorem upd_len (ss fin : List UInt32) (i : Nat) : (upd ss fin i).length = 8 := by simp [upd]
theorem upd_0 (a b c d e f g h : UInt32) (fin : List UInt32) : upd [a, b, c, d, e, f, g, h] fin 0 = [a, b, c, d, e, f, g, h] := rfl
theorem upd_4 (a b c d e f g h : UInt32) (s : S8) : upd [a, b, c, d, e, f, g, h] (l8 s) 4 = List.zipWith (· + ·) [a, b, c, d, e, f, g, h] (l8 s) := rfl
theorem list8 {l : List UInt32} (h : l.length = 8) : ∃ a b c d e f g k, l = [a, b, c, d, e, f, g, k] := by
  match l, h with
  | [a, b, c, d, e, f, g, k], _ => exact ⟨a, b, c, d, e, f, g, k, rfl⟩
theorem mix_rotr (x : UInt32) (i j k : Int) (hi : 0 < i ∧ i < 32) (hj : 0 < j ∧ j < 32) (hk : 0 < k ∧ k < 32) :
    rotl x (-i) ^^^ rotl x (-j) ^^^ rotl x (-k) = rotr x (UInt32.ofNat i.toNat) ^^^ rotr x (UInt32.ofNat j.toNat) ^^^ rotr x (UInt32.ofNat k.toNat) := by
  have e := fun (n : Int) (h : 0 < n ∧ n < 32) => rotl_rotr x n.toNat (by omega) (by omega)
  have e1 := e i hi
  have e2 := e j hj
  have e3 := e k hk
  rw [Int.toNat_of_nonneg (by omega)] at e1 e2 e3
  rw [e1, e2, e3]
theorem rounds_succ (ws : List UInt32) (s : S8) (i : Int) (h : 0 ≤ i) : rounds ws s (i + 1).toNat = rnd (rounds ws s i.toNat) (kc.getD i.toNat 0) (ws.getD i.toNat 0) := by
  rw [show (i + 1).toNat = i.toNat + 1 by omega]
  rfl
end Sha
end Go.Fw
